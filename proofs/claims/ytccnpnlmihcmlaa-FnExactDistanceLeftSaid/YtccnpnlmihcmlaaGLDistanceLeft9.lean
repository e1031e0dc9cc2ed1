-- Written by a program of this session (gprint.py), over the kit's print: not trusted: Lean checks it.
import Derived.Test.YtccnpnlmihcmlaaGLDistanceLeft0
import Derived.Test.YtccnpnlmihcmlaaGLDistanceLeft7
import Derived.Test.YtccnpnlmihcmlaaGLDistanceLeft8
namespace Go.Proofs.Ytccnpnlmihcmlaa.GLDistanceLeft
open Go.RowKit Go.Proofs.YtccnpnlmihcmlaaW.PrintWords Go.Proofs.YtccnpnlmihcmlaaW.PrintLast Go.Proofs.YtccnpnlmihcmlaaW.PrintMore Go.Proofs.YtccnpnlmihcmlaaW.PrintOwn
attribute [local go_sem] max2_int min2_int max_two min_two max_three min_three max_four min_four   -- for this text's walks alone
set_option linter.unusedVariables false
set_option linter.unusedSimpArgs false

/-! ### impl_MovesNeeded: function 36 -/
def impl_MovesNeeded.f (k : Nat) (l0 : List Int) (l1 : List Int) : Option (Int × Bool) := (impl_RingsOf.f k l0 l1).bind fun bt243 => (some (wrap64 (bt243.1 + bt243.2.1), bt243.2.2))
theorem impl_MovesNeeded.mono : ∀ a0 a1 k, LeO (impl_MovesNeeded.f k a0 a1) (impl_MovesNeeded.f (k + 1) a0 a1) := by
 intro a0 a1 k
 unfold impl_MovesNeeded.f
 repeat' first
   | (with_reducible exact impl_RingsOf.mono _ _ _)
   | (with_reducible exact LeO.refl _)
   | (with_reducible exact LeO.none _)
   | (with_reducible refine LeO.ite ?_ ?_)
   | (with_reducible refine LeO.bind ?_ (fun _ => ?_))
   | exact impl_RingsOf.mono _ _ _
   | exact LeO.none _
   | refine LeO.ite ?_ ?_
   | refine LeO.bind ?_ (fun _ => ?_)
set_option maxHeartbeats 8000000 in
set_option maxRecDepth 100000 in
theorem impl_MovesNeeded.calls (k : Nat) (A0 : Option Addr) (c0 : Nat) (l0 : List Int) (A1 : Option Addr) (c1 : Nat) (l1 : List Int) (r1 : Int) (r2 : Bool) (w : World) (hr0 : Kd.C (Kd.int .i64) w A0 l0.length l0) (hc0 : l0.length ≤ c0) (hr1 : Kd.C (Kd.int .i64) w A1 l1.length l1) (hc1 : l1.length ≤ c1) (h : impl_MovesNeeded.f k l0 l1 = some (r1, r2)) :
  Calls Try.prog 36 #[.slice A0 l0.length c0, .slice A1 l1.length c1] w fun e w' => e = .returned (.tuple #[.int .i64 r1, .bool r2]) ∧ Below w.heap.size w w' := by
 have HR0 := Aside0.mk hr0
 have HC0 := Aside0.mk hc0
 clear hr0 hc0
 have HR1 := Aside0.mk hr1
 have HC1 := Aside0.mk hc1
 clear hr1 hc1
 have HB := Aside0.mk (Below.refl w.heap.size w)
 have H : ((impl_RingsOf.f k l0 l1).bind fun bt243 => (some (wrap64 (bt243.1 + bt243.2.1), bt243.2.2))) = some (r1, r2) := h
 clear h
 replace H := Option.bind_eq_some_iff.mp H
 obtain ⟨⟨t243, t244, t245⟩, A30, H⟩ := H
 replace H : (some (wrap64 (t243 + t244), t245)) = some (r1, r2) := H
 have A3 := Aside0.mk A30
 clear A30
 simp only [Option.some.injEq, Prod.mk.injEq] at H
 obtain ⟨rfl, rfl⟩ := H
 go_enter Try.func36, Try.ntmps36
 go_wp2_with (first | ((with_reducible refine gate_callee (f := 34) rfl ?_); refine goesL_ (some 12) rfl rfl Try.func34 (by kernel_rfl) rfl #[.slice A0 l0.length c0, .slice A1 l1.length c1] rfl (by (try simp only [List.map_toArray, List.map_cons, List.map_nil]); first | done | rfl | (simp only [List.length_drop, List.length_take]; rfl)) ?_; (with_reducible refine (impl_RingsOf.calls k _ _ l0 _ _ l1 t243 t244 t245 _ ?side1 ?side2 ?side3 ?side4 A3.out).mono ?_); (case side1 => repeat (first | exact HR0.out | (with_reducible refine Kd.C_alloc ?_ _) | (with_reducible refine Kd.C_drewN ?_ _) | (with_reducible refine Kd.C_drew ?_))); (case side2 => exact HC0.out); (case side3 => repeat (first | exact HR1.out | (with_reducible refine Kd.C_alloc ?_ _) | (with_reducible refine Kd.C_drewN ?_ _) | (with_reducible refine Kd.C_drew ?_))); (case side4 => exact HC1.out); rintro e w4 ⟨rfl, hb⟩; refine ⟨_, rfl, ?_⟩; have n0_ := Aside0.mk (below_step (by repeat (first | (with_reducible first | exact HB.out | apply below_alloc | apply pw_below_drewN | apply below_drew1) | exact HB.out)) hb); clear HB; have HB := n0_; clear n0_; (try clear hb); (try clear hb2); (try clear hk); (try clear hi)))
 go_ret2
 exact ⟨by first | rfl | (simp [errW_none, errW_some] <;> rfl) | (simp [*, errW_none, errW_some] <;> rfl), by repeat (first | (with_reducible first | exact HB.out | apply below_alloc | apply pw_below_drewN | apply below_drew1) | exact HB.out)⟩

/-! ### slices_Clone_int_int: function 66 -/
def slices_Clone_int_int.f (l0 : List Int) : Option (List Int) := if l0.length < 17592186044416 then some l0 else none
set_option maxHeartbeats 4000000 in
theorem slices_Clone_int_int.calls (A0 : Option Addr) (c0 : Nat) (l0 : List Int) (r : List Int) (w : World) (hr0 : Kd.C (Kd.int .i64) w A0 l0.length l0) (hc0 : l0.length ≤ c0) (h : slices_Clone_int_int.f l0 = some r) :
  Calls Try.prog 66 #[.slice A0 l0.length c0] w fun e w' => ∃ v0_ : Value, e = .returned (v0_) ∧ Kd.R (Kd.int .i64) 3 w' w.heap.size (fun _ => True) v0_ r ∧ Below w.heap.size w w' := by
 unfold slices_Clone_int_int.f at h
 split at h
 case isFalse => cases h
 case isTrue hl =>
 obtain rfl := Option.some.inj h
 clear h
 have HL := Aside0.mk hl
 clear hl
 have HR0 := Aside0.mk hr0
 clear hr0 hc0
 cases A0 with
 | none =>
  have e0 : l0 = [] := by
   cases l0 with
   | nil => rfl
   | cons x l =>
    obtain ⟨ad, e, _⟩ := HR0.out.2.2 (by simp)
    cases e
  subst e0
  have hcmp := fun (W : World) (m c : Nat) => Lib.run_eql_slice_nil (P := Try.prog) W 22 3 none m c 0 0 Try.underlying22
  simp only [Option.isNone_none] at hcmp
  go_enter Try.func66, Try.ntmps66
  go_wp2
  go_ret
  exact ⟨_, rfl, Kd.R_nil _ _ _ _ _, Below.refl _ _⟩
 | some a0 =>
  have hcmp := fun (W : World) (m c : Nat) => Lib.run_eql_slice_nil (P := Try.prog) W 22 3 (some a0) m c 0 0 Try.underlying22
  simp only [Option.isNone_some] at hcmp
  go_enter Try.func66, Try.ntmps66
  go_wp2_with (first | ((with_reducible refine gate_dst (N := 5) rfl ?_); refine Kd.R_lit (Kd.int .i64) _ 3 ?hg (N := 5) ?hd (xs := ([] : List Int)) (inner := []) (ok := fun _ => True) (okp := fun _ => True) ?hr ?hp (fun _ hk => hk) trivial (Below.refl _ _) (Nat.le_refl _) (by simp) ?_; (case hd => rfl); (case hg => rfl); (case hr => first | (go_simp; done) | (go_simp; rfl)); (case hp => exact (Reps.none _ _)); intro v1 w1 ho1 hb1 hg_ hnew_; clear hg_ hnew_; have HO1 := Aside0.mk ho1; have HB1 := Aside0.mk hb1; clear ho1 hb1) | ((with_reducible refine gate_builtin (b := .append) (xs := #[.tmp 5, .tmp 6]) rfl ?_); at_builtin; refine Kd.R_append_rows (Kd.int .i64) (w0 := w) w.heap.size rfl (.tmp 5) (.tmp 6) 22 3 (.int .i64 0) 8 rfl Try.underlying22 info3 rfl (by decide) (by omega) v1 ([] : List Int) l0 _ _ _ (fun _ => True) (fun _ => False) rfl rfl ?aO ?aR (fun _ _ h => h) (fun _ h => h.elim) ?aF ?aB ?aS ?aL ?_; (case aR => exact Kd.C_below HR0.out HB1.out); (case aB => exact HB1.out); (case aF => exact (fun _ _ => trivial)); (case aO => exact HO1.out); (case aS => exact below_size HB1.out); (case aL => have := HL.out; simp; omega); intro v2 w2 ho2 hb2 hg hat; have HO2 := Aside0.mk ho2; have HB2 := Aside0.mk hb2; clear ho2 hb2 hg hat))
  go_ret
  exact ⟨_, rfl, HO2.out, HB2.out⟩

/-! ### impl_moved: function 64 -/
def impl_moved.f (l0 : List Int) (a1_0 a1_1 : Int) : Option (List Int × Bool) := if l0.length < 17592186044416 then (if ((0 ≤ a1_0 ∧ a1_0 < (l0.length : Int)) ∧ (0 ≤ a1_1 ∧ a1_1 < (l0.length : Int))) ∧ ¬ rd l0 a1_0 = 0 ∧ rd l0 a1_1 = 0 then some ((l0.set a1_0.toNat 0).set a1_1.toNat (rd l0 a1_0), true) else some ([], false)) else none
set_option maxHeartbeats 1500000 in
set_option maxRecDepth 100000 in
theorem impl_moved.calls (A0 : Option Addr) (c0 : Nat) (l0 : List Int) (a1_0 : Int) (a1_1 : Int) (r1 : List Int) (r2 : Bool) (w : World) (hr0 : Kd.C (Kd.int .i64) w A0 l0.length l0) (hc0 : l0.length ≤ c0) (h : impl_moved.f l0 a1_0 a1_1 = some (r1, r2)) :
  Calls Try.prog 64 #[.slice A0 l0.length c0, .agg #[.int .i64 a1_0, .int .i64 a1_1]] w fun e w' => ∃ v0_ : Value, e = .returned (.tuple #[v0_, .bool r2]) ∧ Kd.R (Kd.int .i64) 3 w' w.heap.size (fun _ => True) v0_ r1 ∧ Below w.heap.size w w' := by
 have hu39 := Try.underlying39
 unfold impl_moved.f at h
 split at h
 case isFalse => cases h
 case isTrue hl =>
 have hl1 : l0.length ≤ 9223372036854775807 := by omega
 have HR0 := Aside0.mk hr0
 have HC0 := Aside0.mk hc0
 have HCL := Aside0.mk (show slices_Clone_int_int.f l0 = some l0 from if_pos hl)
 clear hr0 hc0
 have hF : impl_allWithin.f [a1_0, a1_1] 0 ((l0.length : Int) - 1) = some ((decide (0 ≤ a1_0) && decide (a1_0 ≤ (l0.length : Int) - 1)) && (decide (0 ≤ a1_1) && decide (a1_1 ≤ (l0.length : Int) - 1))) := by
  unfold impl_allWithin.f
  simp
 by_cases hc : (0 ≤ a1_0 ∧ a1_0 < (l0.length : Int)) ∧ (0 ≤ a1_1 ∧ a1_1 < (l0.length : Int))
 ·have HF := Aside0.mk (show impl_allWithin.f [a1_0, a1_1] 0 ((l0.length : Int) - 1) = some true by rw [hF]; simp; omega)
  have HQ := Aside0.mk hc
  obtain ⟨ad, ea, hx0⟩ := Kd.at_int HR0.out a1_0 hc.1.1 hc.1.2
  obtain ⟨ad2, ea2, hx1⟩ := Kd.at_int HR0.out a1_1 hc.2.1 hc.2.2
  cases ea
  obtain rfl : ad = ad2 := by injection ea2
  clear ea2 hF
  have HX := Aside0.mk (And.intro hx0 hx1)
  have p0 : (0 ≤ a1_0) = True := eq_true hc.1.1
  have q0 : (a1_0 < (l0.length : Int)) = True := eq_true hc.1.2
  have p1 : (0 ≤ a1_1) = True := eq_true hc.2.1
  have q1 : (a1_1 < (l0.length : Int)) = True := eq_true hc.2.2
  have dp0 : decide (0 ≤ a1_0) = true := decide_eq_true hc.1.1
  have dq0 : decide (a1_0 < (l0.length : Int)) = true := decide_eq_true hc.1.2
  have dp1 : decide (0 ≤ a1_1) = true := decide_eq_true hc.2.1
  have dq1 : decide (a1_1 < (l0.length : Int)) = true := decide_eq_true hc.2.2
  have hc' := HQ.out
  clear hc hx0 hx1
  by_cases h1 : rd l0 a1_0 = 0
  ·rw [if_neg (fun hh => hh.2.1 h1)] at h
   obtain ⟨rfl, rfl⟩ : [] = r1 ∧ false = r2 := by simpa using h
   have e1 : (rd l0 a1_0 == 0) = true := by simp [h1]
   clear h h1 hc'
   go_enter Try.func64, Try.ntmps64
   go_wp2_with (first | ((with_reducible refine gate_dst (N := 11) rfl ?_); refine Kd.R_lit (Kd.int .i64) _ 3 ?hg (N := 11) ?hd (xs := [a1_0, a1_1]) (inner := [.int .i64 a1_0, .int .i64 a1_1]) (ok := fun _ => True) (okp := fun _ => True) ?hr ?hp (fun _ hk => hk) trivial (Below.refl _ _) (Nat.le_refl _) (by simp) ?_; (case hd => rfl); (case hg => rfl); (case hr => first | (go_simp; done) | (go_simp; rfl)); (case hp => exact Reps.snoc (ps := [a1_0]) (cs := [.int .i64 a1_0]) (c := [.int .i64 a1_1]) (Reps.snoc (ps := []) (cs := []) (c := [.int .i64 a1_0]) (Reps.none _ _) rfl rfl) rfl rfl); intro v1 w1 ho1 hb1 hg_ hnew_; clear hg_ hnew_; obtain ⟨Al, cl, el⟩ := Kd.R_slice ho1; subst el; have HC1 := Aside0.mk (Kd.R_reads' ho1).2; have ks : w.heap.size + 1 ≤ w1.heap.size := (by have := hb1.size; simpa using this); have HS1 := Aside0.mk ks; have HB1 := Aside0.mk (((Below.refl w.heap.size w).alloc (Nat.le_refl _) (.cells #[.int .i64 a1_0, .int .i64 a1_1] 39)).trans (hb1.mono (by simp))); have k0 : w1.cell? ⟨w.heap.size, 0, none⟩ = some (.int .i64 a1_0) := ((hb1.cell (p := ⟨w.heap.size, 0, none⟩) (by simp)).trans (by simp)); have k1 : w1.cell? ⟨w.heap.size, 1, none⟩ = some (.int .i64 a1_1) := ((hb1.cell (p := ⟨w.heap.size, 1, none⟩) (by simp)).trans (by simp)); have HCALL := Aside0.mk (show Calls Try.prog 60 #[.slice Al 2 cl, .int .i64 0, .int .i64 ((l0.length : Int) - 1)] w1 _ from impl_allWithin.calls Al cl [a1_0, a1_1] 0 ((l0.length : Int) - 1) _ w1 HC1.out.2 HC1.out.1 HF.out); clear ho1 hb1 ks) | (go_at_call 60; (with_reducible refine HCALL.out.mono ?_); rintro e w2 ⟨rfl, hb2⟩; have HS2 := Aside0.mk hb2.size; have j0 := (hb2.cell (p := ⟨w.heap.size, 0, none⟩) (by have := HS1.out; show w.heap.size < _; omega)).trans k0; have j1 := (hb2.cell (p := ⟨w.heap.size, 1, none⟩) (by have := HS1.out; show w.heap.size < _; omega)).trans k1; clear k0 k1; have HB2 := Aside0.mk (HB1.out.trans (hb2.mono HB1.out.size)); clear hb2; have jx := (HB2.out.cell (World.block_lt_of_cell? w _ HX.out.1)).trans HX.out.1; have jy := (HB2.out.cell (World.block_lt_of_cell? w _ HX.out.2)).trans HX.out.2))
   go_ret2
   exact ⟨_, by first | rfl | simp, Kd.R_nil _ _ _ _ _, HB2.out⟩
  ·have e1 : (rd l0 a1_0 == 0) = false := by simp [h1]
   by_cases h2 : rd l0 a1_1 = 0
   ·rw [if_pos ⟨hc', h1, h2⟩] at h
    obtain ⟨rfl, rfl⟩ : (l0.set a1_0.toNat 0).set a1_1.toNat (rd l0 a1_0) = r1 ∧ true = r2 := by simpa using h
    have e2 : (rd l0 a1_1 != 0) = false := by simp [h2]
    clear h h1 h2 hc'
    go_enter Try.func64, Try.ntmps64
    go_wp2_with (first | ((with_reducible refine gate_dst (N := 11) rfl ?_); refine Kd.R_lit (Kd.int .i64) _ 3 ?hg (N := 11) ?hd (xs := [a1_0, a1_1]) (inner := [.int .i64 a1_0, .int .i64 a1_1]) (ok := fun _ => True) (okp := fun _ => True) ?hr ?hp (fun _ hk => hk) trivial (Below.refl _ _) (Nat.le_refl _) (by simp) ?_; (case hd => rfl); (case hg => rfl); (case hr => first | (go_simp; done) | (go_simp; rfl)); (case hp => exact Reps.snoc (ps := [a1_0]) (cs := [.int .i64 a1_0]) (c := [.int .i64 a1_1]) (Reps.snoc (ps := []) (cs := []) (c := [.int .i64 a1_0]) (Reps.none _ _) rfl rfl) rfl rfl); intro v1 w1 ho1 hb1 hg_ hnew_; clear hg_ hnew_; obtain ⟨Al, cl, el⟩ := Kd.R_slice ho1; subst el; have HC1 := Aside0.mk (Kd.R_reads' ho1).2; have ks : w.heap.size + 1 ≤ w1.heap.size := (by have := hb1.size; simpa using this); have HS1 := Aside0.mk ks; have HB1 := Aside0.mk (((Below.refl w.heap.size w).alloc (Nat.le_refl _) (.cells #[.int .i64 a1_0, .int .i64 a1_1] 39)).trans (hb1.mono (by simp))); have k0 : w1.cell? ⟨w.heap.size, 0, none⟩ = some (.int .i64 a1_0) := ((hb1.cell (p := ⟨w.heap.size, 0, none⟩) (by simp)).trans (by simp)); have k1 : w1.cell? ⟨w.heap.size, 1, none⟩ = some (.int .i64 a1_1) := ((hb1.cell (p := ⟨w.heap.size, 1, none⟩) (by simp)).trans (by simp)); have HCALL := Aside0.mk (show Calls Try.prog 60 #[.slice Al 2 cl, .int .i64 0, .int .i64 ((l0.length : Int) - 1)] w1 _ from impl_allWithin.calls Al cl [a1_0, a1_1] 0 ((l0.length : Int) - 1) _ w1 HC1.out.2 HC1.out.1 HF.out); clear ho1 hb1 ks) | (go_at_call 60; (with_reducible refine HCALL.out.mono ?_); rintro e w2 ⟨rfl, hb2⟩; have HS2 := Aside0.mk hb2.size; have j0 := (hb2.cell (p := ⟨w.heap.size, 0, none⟩) (by have := HS1.out; show w.heap.size < _; omega)).trans k0; have j1 := (hb2.cell (p := ⟨w.heap.size, 1, none⟩) (by have := HS1.out; show w.heap.size < _; omega)).trans k1; clear k0 k1; have HB2 := Aside0.mk (HB1.out.trans (hb2.mono HB1.out.size)); clear hb2; have jx := (HB2.out.cell (World.block_lt_of_cell? w _ HX.out.1)).trans HX.out.1; have jy := (HB2.out.cell (World.block_lt_of_cell? w _ HX.out.2)).trans HX.out.2) | (go_at_call 66; refine (slices_Clone_int_int.calls (some ad) c0 l0 l0 w2 (Kd.C_below HR0.out HB2.out) HC0.out HCL.out).mono ?_; rintro e w3 ⟨v3, rfl, ho3, hb3⟩; obtain ⟨go, co, eo, gb, gl, cl8, HG⟩ := Kd.R_form ho3 (by have := HQ.out; omega); subst eo; have HG3 := Aside0.mk gb; have HO3 := Aside0.mk ho3; have HB3 := Aside0.mk (HB2.out.trans (hb3.mono HB2.out.size)); have i0 := (hb3.cell (p := ⟨w.heap.size, 0, none⟩) (by have := HS1.out; have := HS2.out; show w.heap.size < _; omega)).trans j0; have i1 := (hb3.cell (p := ⟨w.heap.size, 1, none⟩) (by have := HS1.out; have := HS2.out; show w.heap.size < _; omega)).trans j1; clear j0 j1 jx jy gb gl HG ho3 hb3))
    have HO4 := Aside0.mk (Kd.R_drew HO3.out)
    have HB4 := Aside0.mk (below_drew1 HB3.out)
    have kx : w3.drew.cell? (ad.add a1_0.toNat) = some (.int .i64 (rd l0 a1_0)) := (HB4.out.cell (World.block_lt_of_cell? w _ HX.out.1)).trans HX.out.1
    have kb0 : w3.drew.cell? ⟨w.heap.size, 0, none⟩ = some (.int .i64 a1_0) := i0
    have kb1 : w3.drew.cell? ⟨w.heap.size, 1, none⟩ = some (.int .i64 a1_1) := i1
    have hne : ad.block ≠ go := by
     have := World.block_lt_of_cell? w _ HX.out.1
     have h2 := HG3.out
     have h3 := HB2.out.size
     simp only [add_block] at this
     omega
    have hne2 : w.heap.size ≠ go := by
     have h2 := HG3.out
     have h3 := HS1.out
     have h4 := HS2.out
     omega
    have HN := Aside0.mk (And.intro hne hne2)
    clear hne hne2 i0 i1
    obtain ⟨hx8, hf8⟩ := Kd.R_celln 0 HO4.out a1_0 HQ.out.1.1 HQ.out.1.2
    have HP5 := Aside0.mk (Kd.R_putn HO4.out a1_0 0)
    obtain ⟨hx9, hf9⟩ := Kd.R_celln 0 HP5.out a1_1 HQ.out.2.1 HQ.out.2.2
    have HP6 := Aside0.mk (Kd.R_putn HP5.out a1_1 (rd l0 a1_0))
    have hs0 : (w3.drew.setCell ⟨go, a1_0.toNat, none⟩ (.int .i64 0)).cell? ⟨w.heap.size, 0, none⟩ = some (.int .i64 a1_0) := (cell_far (p := ⟨go, a1_0.toNat, none⟩) (a := ⟨w.heap.size, 0, none⟩) HN.out.2 _).trans kb0
    have hs1 : (w3.drew.setCell ⟨go, a1_0.toNat, none⟩ (.int .i64 0)).cell? ⟨w.heap.size, 1, none⟩ = some (.int .i64 a1_1) := (cell_far (p := ⟨go, a1_0.toNat, none⟩) (a := ⟨w.heap.size, 1, none⟩) HN.out.2 _).trans kb1
    have hs2 : (w3.drew.setCell ⟨go, a1_0.toNat, none⟩ (.int .i64 0)).cell? (ad.add a1_0.toNat) = some (.int .i64 (rd l0 a1_0)) := (cell_far (p := ⟨go, a1_0.toNat, none⟩) (a := ad.add a1_0.toNat) (by simp only [add_block]; exact HN.out.1) _).trans kx
    refine start_ (n := 15) (S := fun w' => w'.cell? ⟨w.heap.size, 0, none⟩ = some (.int .i64 a1_0) ∧ w'.cell? ⟨w.heap.size, 1, none⟩ = some (.int .i64 a1_1) ∧ w'.cell? (ad.add a1_0.toNat) = some (.int .i64 (rd l0 a1_0))) (ds := [14]) #[false, false, false, false, false, false, false, false, false, false, false, false, false, false, false] (by kernel_rfl) rfl rfl ⟨kb0, kb1, kx⟩ (fun hHeld => ?_)
    generalize w3.drew = w10 at HO4 HB4 kx kb0 kb1 hx8 hf8 HP5 hx9 hf9 HP6 hs0 hs1 hs2 hHeld ⊢
    refine pure_ (i := 0) (N := some 35) (v := ?_) (a' := ?_) #[true, false, false, false, false, false, false, false, false, false, false, false, false, false, false] rfl rfl (by kernel_rfl) (fun _ _ _ h => h) (Or.inl ⟨by rfl, ?_⟩) ?_ ?_
    rotate_left
    ·intro w'
     go_simp
     with_reducible rfl
    rotate_left
    ·simp only [Act.put, List.setIfInBounds_toArray, List.set_cons_zero, List.set_cons_succ, i64_w, i32_w]
     rfl
    refine pure_ (i := 1) (N := some 36) (v := ?_) (a' := ?_) #[true, true, false, false, false, false, false, false, false, false, false, false, false, false, false] rfl rfl (by kernel_rfl) (fun _ _ _ h => h) (Or.inl ⟨by rfl, ?_⟩) ?_ ?_
    rotate_left
    ·intro w'
     go_simp
     with_reducible rfl
    rotate_left
    ·simp only [Act.put, List.setIfInBounds_toArray, List.set_cons_zero, List.set_cons_succ, i64_w, i32_w]
     rfl
    refine pure_ (i := 3) (N := some 38) (v := ?_) (a' := ?_) #[true, true, false, true, false, false, false, false, false, false, false, false, false, false, false] rfl rfl (by kernel_rfl) (fun _ _ _ h => h) (Or.inl ⟨by rfl, ?_⟩) ?_ ?_
    rotate_left
    ·intro w'
     go_simp
     with_reducible rfl
    rotate_left
    ·simp only [Act.put, List.setIfInBounds_toArray, List.set_cons_zero, List.set_cons_succ, i64_w, i32_w]
     rfl
    refine pure_ (i := 4) (N := some 39) (v := ?_) (a' := ?_) #[true, true, false, true, true, false, false, false, false, false, false, false, false, false, false] rfl rfl (by kernel_rfl) (fun _ _ _ h => h) (Or.inl ⟨by rfl, ?_⟩) ?_ ?_
    rotate_left
    ·intro w'
     go_simp
     with_reducible rfl
    rotate_left
    ·simp only [Act.put, List.setIfInBounds_toArray, List.set_cons_zero, List.set_cons_succ, i64_w, i32_w]
     rfl
    refine pure_ (i := 6) (N := some 41) (v := ?_) (a' := ?_) #[true, true, false, true, true, false, true, false, false, false, false, false, false, false, false] rfl rfl (by kernel_rfl) (fun _ _ _ h => h) (Or.inl ⟨by rfl, ?_⟩) ?_ ?_
    rotate_left
    ·intro w'
     go_simp
     with_reducible rfl
    rotate_left
    ·simp only [Act.put, List.setIfInBounds_toArray, List.set_cons_zero, List.set_cons_succ, i64_w, i32_w]
     rfl
    refine pure_ (i := 7) (N := some 42) (v := ?_) (a' := ?_) #[true, true, false, true, true, false, true, true, false, false, false, false, false, false, false] rfl rfl (by kernel_rfl) (fun _ _ _ h => h) (Or.inl ⟨by rfl, ?_⟩) ?_ ?_
    rotate_left
    ·intro w'
     go_simp
     with_reducible rfl
    rotate_left
    ·simp only [Act.put, List.setIfInBounds_toArray, List.set_cons_zero, List.set_cons_succ, i64_w, i32_w]
     rfl
    refine take_ (i := 2) (N := some 37) (v := ?_) (a' := ?_) #[true, true, true, true, true, false, true, true, false, false, false, false, false, false, false] rfl rfl (by kernel_rfl) (fun _ _ _ h => h) (Or.inl ⟨by rfl, ?_⟩) hHeld ?_ ?_
    rotate_left
    ·rintro w' ⟨s0, s1, s2⟩
     go_simp
     with_reducible rfl
    rotate_left
    ·simp only [Act.put, List.setIfInBounds_toArray, List.set_cons_zero, List.set_cons_succ, i64_w, i32_w]
     rfl
    refine take_ (i := 5) (N := some 40) (v := ?_) (a' := ?_) #[true, true, true, true, true, true, true, true, false, false, false, false, false, false, false] rfl rfl (by kernel_rfl) (fun _ _ _ h => h) (Or.inl ⟨by rfl, ?_⟩) hHeld ?_ ?_
    rotate_left
    ·rintro w' ⟨s0, s1, s2⟩
     go_simp
     with_reducible rfl
    rotate_left
    ·simp only [Act.put, List.setIfInBounds_toArray, List.set_cons_zero, List.set_cons_succ, i64_w, i32_w]
     rfl
    refine take_ (i := 8) (N := some 43) (v := ?_) (a' := ?_) #[true, true, true, true, true, true, true, true, true, false, false, false, false, false, false] rfl rfl (by kernel_rfl) (fun _ _ _ h => h) (Or.inl ⟨by rfl, ?_⟩) hHeld ?_ ?_
    rotate_left
    ·rintro w' ⟨s0, s1, s2⟩
     go_simp
     with_reducible rfl
    rotate_left
    ·simp only [Act.put, List.setIfInBounds_toArray, List.set_cons_zero, List.set_cons_succ, i64_w, i32_w]
     rfl
    refine pure_ (i := 9) (N := some 44) (v := ?_) (a' := ?_) #[true, true, true, true, true, true, true, true, true, true, false, false, false, false, false] rfl rfl (by kernel_rfl) (fun _ _ _ h => h) (Or.inl ⟨by rfl, ?_⟩) ?_ ?_
    rotate_left
    ·intro w'
     go_simp
     with_reducible rfl
    rotate_left
    ·simp only [Act.put, List.setIfInBounds_toArray, List.set_cons_zero, List.set_cons_succ, i64_w, i32_w]
     rfl
    refine take_ (i := 10) (N := some 45) (v := ?_) (a' := ?_) #[true, true, true, true, true, true, true, true, true, true, true, false, false, false, false] rfl rfl (by kernel_rfl) (fun _ _ _ h => h) (Or.inl ⟨by rfl, ?_⟩) hHeld ?_ ?_
    rotate_left
    ·rintro w' ⟨s0, s1, s2⟩
     go_simp
     with_reducible rfl
    rotate_left
    ·simp only [Act.put, List.setIfInBounds_toArray, List.set_cons_zero, List.set_cons_succ, i64_w, i32_w]
     rfl
    refine pure_ (i := 11) (N := some 46) (v := ?_) (a' := ?_) #[true, true, true, true, true, true, true, true, true, true, true, true, false, false, false] rfl rfl (by kernel_rfl) (fun _ _ _ h => h) (Or.inl ⟨by rfl, ?_⟩) ?_ ?_
    rotate_left
    ·intro w'
     go_simp
     with_reducible rfl
    rotate_left
    ·simp only [Act.put, List.setIfInBounds_toArray, List.set_cons_zero, List.set_cons_succ, i64_w, i32_w]
     rfl
    refine one_ (i := 12) (N := none) #[true, true, true, true, true, true, true, true, true, true, true, true, true, false, false] rfl rfl (by kernel_rfl) (by decide) (fun K hK => ?_)
    refine skip_ (w1 := ?_) (by rfl) rfl ?_ ?_
    rotate_left
    ·go_simp
     rfl
    refine hK.out _ _ ⟨hs0, hs1, hs2⟩ (fun hHeld => ?_)
    clear hK K
    refine pure_ (i := 13) (N := some 47) (v := ?_) (a' := ?_) #[true, true, true, true, true, true, true, true, true, true, true, true, true, true, false] rfl rfl (by kernel_rfl) (fun _ _ _ h => h) (Or.inl ⟨by rfl, ?_⟩) ?_ ?_
    rotate_left
    ·intro w'
     go_simp
     with_reducible rfl
    rotate_left
    ·simp only [Act.put, List.setIfInBounds_toArray, List.set_cons_zero, List.set_cons_succ, i64_w, i32_w]
     rfl
    refine last_ (i := 14) (N := none) #[true, true, true, true, true, true, true, true, true, true, true, true, true, true, true] rfl rfl (by kernel_rfl) (by decide) (fun K hK => ?_)
    refine skip_ (w1 := ?_) (by rfl) rfl ?_ ?_
    rotate_left
    ·go_simp
     rfl
    refine hK.out _ _ ?_
    clear hK K
    refine done_ (by kernel_rfl) ?_
    go_wp2
    go_ret2
    exact ⟨_, by first | rfl | simp, Kd.R_lower HP6.out HB2.out.size, below_set (below_set HB4.out (by have := HG3.out; have := HB2.out.size; omega)) (by have := HG3.out; have := HB2.out.size; omega)⟩
   ·rw [if_neg (fun hh => h2 hh.2.2)] at h
    obtain ⟨rfl, rfl⟩ : [] = r1 ∧ false = r2 := by simpa using h
    have e2 : (rd l0 a1_1 != 0) = true := by simp [h2]
    clear h h1 h2 hc'
    go_enter Try.func64, Try.ntmps64
    go_wp2_with (first | ((with_reducible refine gate_dst (N := 11) rfl ?_); refine Kd.R_lit (Kd.int .i64) _ 3 ?hg (N := 11) ?hd (xs := [a1_0, a1_1]) (inner := [.int .i64 a1_0, .int .i64 a1_1]) (ok := fun _ => True) (okp := fun _ => True) ?hr ?hp (fun _ hk => hk) trivial (Below.refl _ _) (Nat.le_refl _) (by simp) ?_; (case hd => rfl); (case hg => rfl); (case hr => first | (go_simp; done) | (go_simp; rfl)); (case hp => exact Reps.snoc (ps := [a1_0]) (cs := [.int .i64 a1_0]) (c := [.int .i64 a1_1]) (Reps.snoc (ps := []) (cs := []) (c := [.int .i64 a1_0]) (Reps.none _ _) rfl rfl) rfl rfl); intro v1 w1 ho1 hb1 hg_ hnew_; clear hg_ hnew_; obtain ⟨Al, cl, el⟩ := Kd.R_slice ho1; subst el; have HC1 := Aside0.mk (Kd.R_reads' ho1).2; have ks : w.heap.size + 1 ≤ w1.heap.size := (by have := hb1.size; simpa using this); have HS1 := Aside0.mk ks; have HB1 := Aside0.mk (((Below.refl w.heap.size w).alloc (Nat.le_refl _) (.cells #[.int .i64 a1_0, .int .i64 a1_1] 39)).trans (hb1.mono (by simp))); have k0 : w1.cell? ⟨w.heap.size, 0, none⟩ = some (.int .i64 a1_0) := ((hb1.cell (p := ⟨w.heap.size, 0, none⟩) (by simp)).trans (by simp)); have k1 : w1.cell? ⟨w.heap.size, 1, none⟩ = some (.int .i64 a1_1) := ((hb1.cell (p := ⟨w.heap.size, 1, none⟩) (by simp)).trans (by simp)); have HCALL := Aside0.mk (show Calls Try.prog 60 #[.slice Al 2 cl, .int .i64 0, .int .i64 ((l0.length : Int) - 1)] w1 _ from impl_allWithin.calls Al cl [a1_0, a1_1] 0 ((l0.length : Int) - 1) _ w1 HC1.out.2 HC1.out.1 HF.out); clear ho1 hb1 ks) | (go_at_call 60; (with_reducible refine HCALL.out.mono ?_); rintro e w2 ⟨rfl, hb2⟩; have HS2 := Aside0.mk hb2.size; have j0 := (hb2.cell (p := ⟨w.heap.size, 0, none⟩) (by have := HS1.out; show w.heap.size < _; omega)).trans k0; have j1 := (hb2.cell (p := ⟨w.heap.size, 1, none⟩) (by have := HS1.out; show w.heap.size < _; omega)).trans k1; clear k0 k1; have HB2 := Aside0.mk (HB1.out.trans (hb2.mono HB1.out.size)); clear hb2; have jx := (HB2.out.cell (World.block_lt_of_cell? w _ HX.out.1)).trans HX.out.1; have jy := (HB2.out.cell (World.block_lt_of_cell? w _ HX.out.2)).trans HX.out.2))
    go_ret2
    exact ⟨_, by first | rfl | simp, Kd.R_nil _ _ _ _ _, HB2.out⟩
 ·have HF := Aside0.mk (show impl_allWithin.f [a1_0, a1_1] 0 ((l0.length : Int) - 1) = some false by
   rw [hF]
   congr 1
   rw [Bool.eq_false_iff]
   intro hh
   simp at hh
   omega)
  rw [if_neg (fun hh => hc hh.1)] at h
  obtain ⟨rfl, rfl⟩ : [] = r1 ∧ false = r2 := by simpa using h
  clear h hc hF
  go_enter Try.func64, Try.ntmps64
  go_wp2_with (first | ((with_reducible refine gate_dst (N := 11) rfl ?_); refine Kd.R_lit (Kd.int .i64) _ 3 ?hg (N := 11) ?hd (xs := [a1_0, a1_1]) (inner := [.int .i64 a1_0, .int .i64 a1_1]) (ok := fun _ => True) (okp := fun _ => True) ?hr ?hp (fun _ hk => hk) trivial (Below.refl _ _) (Nat.le_refl _) (by simp) ?_; (case hd => rfl); (case hg => rfl); (case hr => first | (go_simp; done) | (go_simp; rfl)); (case hp => exact Reps.snoc (ps := [a1_0]) (cs := [.int .i64 a1_0]) (c := [.int .i64 a1_1]) (Reps.snoc (ps := []) (cs := []) (c := [.int .i64 a1_0]) (Reps.none _ _) rfl rfl) rfl rfl); intro v1 w1 ho1 hb1 hg_ hnew_; clear hg_ hnew_; obtain ⟨Al, cl, el⟩ := Kd.R_slice ho1; subst el; have HC1 := Aside0.mk (Kd.R_reads' ho1).2; have ks : w.heap.size + 1 ≤ w1.heap.size := (by have := hb1.size; simpa using this); have HS1 := Aside0.mk ks; have HB1 := Aside0.mk (((Below.refl w.heap.size w).alloc (Nat.le_refl _) (.cells #[.int .i64 a1_0, .int .i64 a1_1] 39)).trans (hb1.mono (by simp))); have k0 : w1.cell? ⟨w.heap.size, 0, none⟩ = some (.int .i64 a1_0) := ((hb1.cell (p := ⟨w.heap.size, 0, none⟩) (by simp)).trans (by simp)); have k1 : w1.cell? ⟨w.heap.size, 1, none⟩ = some (.int .i64 a1_1) := ((hb1.cell (p := ⟨w.heap.size, 1, none⟩) (by simp)).trans (by simp)); have HCALL := Aside0.mk (show Calls Try.prog 60 #[.slice Al 2 cl, .int .i64 0, .int .i64 ((l0.length : Int) - 1)] w1 _ from impl_allWithin.calls Al cl [a1_0, a1_1] 0 ((l0.length : Int) - 1) _ w1 HC1.out.2 HC1.out.1 HF.out); clear ho1 hb1 ks) | (go_at_call 60; (with_reducible refine HCALL.out.mono ?_); rintro e w2 ⟨rfl, hb2⟩; have HS2 := Aside0.mk hb2.size; have j0 := (hb2.cell (p := ⟨w.heap.size, 0, none⟩) (by have := HS1.out; show w.heap.size < _; omega)).trans k0; have j1 := (hb2.cell (p := ⟨w.heap.size, 1, none⟩) (by have := HS1.out; show w.heap.size < _; omega)).trans k1; clear k0 k1; have HB2 := Aside0.mk (HB1.out.trans (hb2.mono HB1.out.size)); clear hb2; skip))
  go_ret2
  exact ⟨_, by first | rfl | simp, Kd.R_nil _ _ _ _ _, HB2.out⟩

/-! ### impl_DoMoves: function 32 -/
mutual
def impl_DoMoves.j0 : Nat → List Int → List (S39) → Bool → Option (List Int × Bool)
 | 0, _, _, _ => none
 | k + 1, x0, x1, x17 => if x17 = true then (some (([] : List Int), false)) else ((slices_Clone_int_int.f x0).bind fun t247 => (impl_DoMoves.l0 k t247 x1 (x1.length : Int) 0))
def impl_DoMoves.l0 : Nat → List Int → List (S39) → Int → Int → Option (List Int × Bool)
 | 0, _, _, _, _ => none
 | k + 1, x6, x20, x21, x22 => if x22 < x21 then (if 0 ≤ x22 then (if x22 < (x20.length : Int) then ((impl_moved.f x6 ((rd_T39 x20 x22).f0) ((rd_T39 x20 x22).f1)).bind fun bt252 => (if bt252.2 = true then (impl_DoMoves.l0 k bt252.1 x20 x21 (wrap64 (x22 + 1))) else (some (([] : List Int), false)))) else (none)) else (none)) else (some (x6, true))
end
def impl_DoMoves.f (k : Nat) (l0 : List Int) (l1 : List (S39)) : Option (List Int × Bool) := (impl_GoodSpots.f k l0).bind fun t246 => (if t246 = true then (impl_DoMoves.j0 k l0 l1 (decide ((l1.length : Int) > 20))) else (impl_DoMoves.j0 k l0 l1 true))
theorem impl_DoMoves.mono_l : ∀ k, (∀ y0 y1 y2, LeO (impl_DoMoves.j0 k y0 y1 y2) (impl_DoMoves.j0 (k + 1) y0 y1 y2)) ∧ (∀ y0 y1 y2 y3, LeO (impl_DoMoves.l0 k y0 y1 y2 y3) (impl_DoMoves.l0 (k + 1) y0 y1 y2 y3))
 | 0 => ⟨fun _ _ _ r h => by simp [impl_DoMoves.j0] at h, fun _ _ _ _ r h => by simp [impl_DoMoves.l0] at h⟩
 | k + 1 => by
  obtain ⟨ih0, ih1⟩ := impl_DoMoves.mono_l k
  refine ⟨?_, ?_⟩
  ·intro y0 y1 y2
   unfold impl_DoMoves.j0
   repeat' first
   | (with_reducible exact ih0 _ _ _)
   | (with_reducible exact ih1 _ _ _ _)
   | (with_reducible exact impl_GoodSpots.mono _ _)
   | (with_reducible exact LeO.refl _)
   | (with_reducible exact LeO.none _)
   | (with_reducible refine LeO.ite ?_ ?_)
   | (with_reducible refine LeO.bind ?_ (fun _ => ?_))
   | exact ih0 _ _ _
   | exact ih1 _ _ _ _
   | exact impl_GoodSpots.mono _ _
   | exact LeO.none _
   | refine LeO.ite ?_ ?_
   | refine LeO.bind ?_ (fun _ => ?_)
  ·intro y0 y1 y2 y3
   unfold impl_DoMoves.l0
   repeat' first
   | (with_reducible exact ih0 _ _ _)
   | (with_reducible exact ih1 _ _ _ _)
   | (with_reducible exact impl_GoodSpots.mono _ _)
   | (with_reducible exact LeO.refl _)
   | (with_reducible exact LeO.none _)
   | (with_reducible refine LeO.ite ?_ ?_)
   | (with_reducible refine LeO.bind ?_ (fun _ => ?_))
   | exact ih0 _ _ _
   | exact ih1 _ _ _ _
   | exact impl_GoodSpots.mono _ _
   | exact LeO.none _
   | refine LeO.ite ?_ ?_
   | refine LeO.bind ?_ (fun _ => ?_)
theorem impl_DoMoves.mono : ∀ a0 a1 k, LeO (impl_DoMoves.f k a0 a1) (impl_DoMoves.f (k + 1) a0 a1) := by
 intro a0 a1 k
 obtain ⟨ih0, ih1⟩ := impl_DoMoves.mono_l k
 unfold impl_DoMoves.f
 repeat' first
   | (with_reducible exact ih0 _ _ _)
   | (with_reducible exact ih1 _ _ _ _)
   | (with_reducible exact impl_GoodSpots.mono _ _)
   | (with_reducible exact LeO.refl _)
   | (with_reducible exact LeO.none _)
   | (with_reducible refine LeO.ite ?_ ?_)
   | (with_reducible refine LeO.bind ?_ (fun _ => ?_))
   | exact ih0 _ _ _
   | exact ih1 _ _ _ _
   | exact impl_GoodSpots.mono _ _
   | exact LeO.none _
   | refine LeO.ite ?_ ?_
   | refine LeO.bind ?_ (fun _ => ?_)
set_option maxHeartbeats 8000000 in
set_option maxRecDepth 100000 in
theorem impl_DoMoves.calls (k : Nat) (A0 : Option Addr) (c0 : Nat) (l0 : List Int) (A1 : Option Addr) (c1 : Nat) (l1 : List (S39)) (r1 : List Int) (r2 : Bool) (w : World) (hr0 : Kd.C (Kd.int .i64) w A0 l0.length l0) (hc0 : l0.length ≤ c0) (hr1 : Kd.C k39 w A1 l1.length l1) (hc1 : l1.length ≤ c1) (h : impl_DoMoves.f k l0 l1 = some (r1, r2)) :
  Calls Try.prog 32 #[.slice A0 l0.length c0, .slice A1 l1.length c1] w fun e w' => ∃ v0_ : Value, e = .returned (.tuple #[v0_, .bool r2]) ∧ Kd.R (Kd.int .i64) 3 w' w.heap.size (fun _ => True) v0_ r1 ∧ Below w.heap.size w w' := by
 have hu39 := Try.underlying39
 have HR0 := Aside0.mk hr0
 have HC0 := Aside0.mk hc0
 clear hr0 hc0
 have HR1 := Aside0.mk hr1
 have HC1 := Aside0.mk hc1
 clear hr1 hc1
 have HB := Aside0.mk (Below.refl w.heap.size w)
 have H : ((impl_GoodSpots.f k l0).bind fun t246 => (if t246 = true then (impl_DoMoves.j0 k l0 l1 (decide ((l1.length : Int) > 20))) else (impl_DoMoves.j0 k l0 l1 true))) = some (r1, r2) := h
 clear h
 have HC3 := Aside0.mk H
 clear H
 go_enter Try.func32, Try.ntmps32
 go_upto_region 1 with (fail)
 go_cut [17] (fun v17 wc => ∃ (kq : Nat) (x17_2 : Bool), v17 = .bool x17_2 ∧ Aside0 (impl_DoMoves.j0 kq l0 l1 x17_2 = some (r1, r2)) ∧ Aside0 (kq ≤ k) ∧ Aside0 (Below w.heap.size w wc))
 case first =>
  have H := HC3.out
  clear HC3
  replace H := Option.bind_eq_some_iff.mp H
  obtain ⟨t246, A40, H⟩ := H
  replace H : (if t246 = true then (impl_DoMoves.j0 k l0 l1 (decide ((l1.length : Int) > 20))) else (impl_DoMoves.j0 k l0 l1 true)) = some (r1, r2) := H
  have A4 := Aside0.mk A40
  clear A40
  by_cases c5 : t246 = true
  ·subst c5
   have H1 : (impl_DoMoves.j0 k l0 l1 (decide ((l1.length : Int) > 20))) = some (r1, r2) := by rw [if_pos rfl] at H; exact H
   clear H
   have H := H1
   clear H1
   have H' := Aside0.mk H
   clear H
   go_wp2_with (first | ((with_reducible refine gate_callee (f := 17) rfl ?_); refine goesL_ (some 11) rfl rfl Try.func17 (by kernel_rfl) rfl #[.slice A0 l0.length c0] rfl (by (try simp only [List.map_toArray, List.map_cons, List.map_nil]); first | done | rfl | (simp only [List.length_drop, List.length_take]; rfl)) ?_; (with_reducible refine (impl_GoodSpots.calls k _ _ l0 true _ ?side1 ?side2 A4.out).mono ?_); (case side1 => repeat (first | exact (Kd.C_below HR0.out HB.out) | (with_reducible refine Kd.C_alloc ?_ _) | (with_reducible refine Kd.C_drewN ?_ _) | (with_reducible refine Kd.C_drew ?_))); (case side2 => exact HC0.out); rintro e w6 ⟨rfl, hb⟩; refine ⟨_, rfl, ?_⟩; have n0_ := Aside0.mk (below_step (by repeat (first | (with_reducible first | exact HB.out | apply below_alloc | apply pw_below_drewN | apply below_drew1) | exact HB.out)) hb); clear HB; have HB := n0_; clear n0_; (try clear hb); (try clear hb2); (try clear hk); (try clear hi)))
   go_meet
   case rel => exact ⟨_, (decide ((l1.length : Int) > 20)), (by first | rfl | (simp; done) | (simp [*]; done)), H', ⟨by first | omega | exact Nat.le_refl _⟩, ⟨by repeat (first | (with_reducible first | exact HB.out | apply below_alloc | apply pw_below_drewN | apply below_drew1) | exact HB.out)⟩⟩
  ·replace c5 := Bool.eq_false_iff.mpr c5
   subst c5
   have H1 : (impl_DoMoves.j0 k l0 l1 true) = some (r1, r2) := by rw [if_neg (show ¬ (false = true) by decide)] at H; exact H
   clear H
   have H := H1
   clear H1
   have H' := Aside0.mk H
   clear H
   go_wp2_with (first | ((with_reducible refine gate_callee (f := 17) rfl ?_); refine goesL_ (some 11) rfl rfl Try.func17 (by kernel_rfl) rfl #[.slice A0 l0.length c0] rfl (by (try simp only [List.map_toArray, List.map_cons, List.map_nil]); first | done | rfl | (simp only [List.length_drop, List.length_take]; rfl)) ?_; (with_reducible refine (impl_GoodSpots.calls k _ _ l0 false _ ?side1 ?side2 A4.out).mono ?_); (case side1 => repeat (first | exact (Kd.C_below HR0.out HB.out) | (with_reducible refine Kd.C_alloc ?_ _) | (with_reducible refine Kd.C_drewN ?_ _) | (with_reducible refine Kd.C_drew ?_))); (case side2 => exact HC0.out); rintro e w7 ⟨rfl, hb⟩; refine ⟨_, rfl, ?_⟩; have n0_ := Aside0.mk (below_step (by repeat (first | (with_reducible first | exact HB.out | apply below_alloc | apply pw_below_drewN | apply below_drew1) | exact HB.out)) hb); clear HB; have HB := n0_; clear n0_; (try clear hb); (try clear hb2); (try clear hk); (try clear hi)))
   go_meet
   case rel => exact ⟨_, (true), (by first | rfl | (simp; done) | (simp [*]; done)), H', ⟨by first | omega | exact Nat.le_refl _⟩, ⟨by repeat (first | (with_reducible first | exact HB.out | apply below_alloc | apply pw_below_drewN | apply below_drew1) | exact HB.out)⟩⟩
 case rest =>
  clear HC3
  try clear c1
  try clear p2
  try clear c3
  try clear c5
  obtain ⟨kq, x17_2, rfl, HA, HJ2, HB⟩ := hcut
  cases kq with
  | zero => exact absurd HA.out (by simp [impl_DoMoves.j0])
  | succ kj2 =>
   have H := HA.out
   clear HA
   simp only [impl_DoMoves.j0] at H
   by_cases c8 : x17_2 = true
   ·subst c8
    have H1 : (some (([] : List Int), false)) = some (r1, r2) := by rw [if_pos rfl] at H; exact H
    clear H
    have H := H1
    clear H1
    simp only [Option.some.injEq, Prod.mk.injEq] at H
    obtain ⟨rfl, rfl⟩ := H
    go_wp2
    go_ret2
    exact ⟨_, by first | rfl | (simp [errW_none, errW_some] <;> rfl) | (simp [*, errW_none, errW_some] <;> rfl), by first | exact Kd.R_nil _ _ _ _ _ | exact Kd.N_nil _ _ _ _ _ | exact Kd.V_nil _ _ _ _ _ | exact Kd.Q_nil _ _ _ _ _ | exact Kd.S_nil _ _ _ _ _, by repeat (first | (with_reducible first | exact HB.out | apply below_alloc | apply pw_below_drewN | apply below_drew1) | exact HB.out)⟩
   ·replace c8 := Bool.eq_false_iff.mpr c8
    subst c8
    have H1 : ((slices_Clone_int_int.f l0).bind fun t247 => (impl_DoMoves.l0 kj2 t247 l1 (l1.length : Int) 0)) = some (r1, r2) := by rw [if_neg (show ¬ (false = true) by decide)] at H; exact H
    clear H
    have H := H1
    clear H1
    replace H := Option.bind_eq_some_iff.mp H
    obtain ⟨t247, A90, H⟩ := H
    replace H : (impl_DoMoves.l0 kj2 t247 l1 (l1.length : Int) 0) = some (r1, r2) := H
    have A9 := Aside0.mk A90
    clear A90
    have H' := Aside0.mk H
    clear H
    go_wp2_with (first | ((with_reducible refine gate_callee (f := 66) rfl ?_); refine goesL_ (some 19) rfl rfl Try.func66 (by kernel_rfl) rfl #[.slice A0 l0.length c0] rfl (by (try simp only [List.map_toArray, List.map_cons, List.map_nil]); first | done | rfl | (simp only [List.length_drop, List.length_take]; rfl)) ?_; (with_reducible refine (slices_Clone_int_int.calls _ _ l0 t247 _ ?side1 ?side2 A9.out).mono ?_); (case side1 => repeat (first | exact (Kd.C_below HR0.out HB.out) | (with_reducible refine Kd.C_alloc ?_ _) | (with_reducible refine Kd.C_drewN ?_ _) | (with_reducible refine Kd.C_drew ?_))); (case side2 => exact HC0.out); rintro e w10 ⟨v248, rfl, ho0, hb⟩; refine ⟨_, rfl, ?_⟩; have n0_ := Aside0.mk (Kd.R_lower ho0 (below_size (by repeat (first | (with_reducible first | exact HB.out | apply below_alloc | apply pw_below_drewN | apply below_drew1) | exact HB.out)))); have n1_ := Aside0.mk (below_step (by repeat (first | (with_reducible first | exact HB.out | apply below_alloc | apply pw_below_drewN | apply below_drew1) | exact HB.out)) hb); clear HB; have HO249 := n0_; have HB := n1_; clear n0_ n1_; (try clear hb); (try clear hb2); (try clear hk); (try clear hi); (try clear ho0)))
    go_loopg [6, 22] kj2 (fun kq v6 v22 w' => ∃ (x6_2 : List Int) (x22_2 : Int), v22 = .int .i64 x22_2 ∧ Aside0 (impl_DoMoves.l0 kq x6_2 l1 (l1.length : Int) x22_2 = some (r1, r2)) ∧ Aside0 (kq ≤ kj2) ∧ Aside0 (Kd.R (Kd.int .i64) 3 w' w.heap.size (fun _ => True) v6 x6_2) ∧ Aside0 (Below w.heap.size w w'))
    case atStart => exact ⟨(t247), (0), (by first | rfl | (simp; done) | (simp [*]; done)), H', ⟨Nat.le_refl _⟩, ⟨by (with_reducible repeat (first | apply Kd.R_alloc | apply Kd.R_drewN | apply Kd.R_drew)); exact HO249.out⟩, ⟨by repeat (first | (with_reducible first | exact HB.out | apply below_alloc | apply pw_below_drewN | apply below_drew1) | exact HB.out)⟩⟩
    case round =>
     clear H'
     try clear c1
     try clear p2
     try clear c3
     try clear c5
     try clear c6
     try clear c8
     try clear p2
     obtain ⟨x6_2, x22_2, rfl, HA, HK2, HO_6, HB⟩ := hrel
     cases gk with
     | zero => exact absurd HA.out (by simp [impl_DoMoves.l0])
     | succ k2 =>
      have H := HA.out
      clear HA
      simp only [impl_DoMoves.l0] at H
      by_cases c11 : x22_2 < (l1.length : Int)
      ·rw [if_pos c11] at H
       have c11b0 : decide (x22_2 < (l1.length : Int)) = true := decide_eq_true c11
       clear c11
       by_cases c12 : 0 ≤ x22_2
       ·rw [if_pos c12] at H
        have c12b0 : decide (0 ≤ x22_2) = true := decide_eq_true c12
        clear c12
        by_cases c13 : x22_2 < (l1.length : Int)
        ·rw [if_pos c13] at H
         have c13b0 : decide (x22_2 < (l1.length : Int)) = true := decide_eq_true c13
         clear c13
         replace H := Option.bind_eq_some_iff.mp H
         obtain ⟨⟨t252, t255⟩, A140, H⟩ := H
         replace H : (if t255 = true then (impl_DoMoves.l0 k2 t252 l1 (l1.length : Int) (wrap64 (x22_2 + 1))) else (some (([] : List Int), false))) = some (r1, r2) := H
         have A14 := Aside0.mk A140
         clear A140
         by_cases c15 : t255 = true
         ·subst c15
          have H1 : (impl_DoMoves.l0 k2 t252 l1 (l1.length : Int) (wrap64 (x22_2 + 1))) = some (r1, r2) := by rw [if_pos rfl] at H; exact H
          clear H
          have H := H1
          clear H1
          have H' := Aside0.mk H
          clear H
          have p250 : 0 ≤ (x22_2 : Int) := of_decide_eq_true (by first | (with_reducible assumption) | assumption)
          have q250 : x22_2 < (l1.length : Int) := of_decide_eq_true (by first | (with_reducible assumption) | assumption)
          obtain ⟨ad250, e250, hx250_0, hx250_1⟩ := at_T39 HR1.out x22_2 p250 q250
          cases e250
          replace hx250_0 := (HB.out.cell (World.block_lt_of_cell? w _ hx250_0)).trans hx250_0
          replace hx250_1 := (HB.out.cell (World.block_lt_of_cell? w _ hx250_1)).trans hx250_1
          replace p250 := eq_true p250
          replace q250 := eq_true q250
          go_wp2_with (first | ((with_reducible refine gate_dst (N := 9) rfl ?_); (try (refine gate_guard (by rfl) ?_; dsimp only)); refine box_event ?hg (N := 9) ?hd (cs := #[.int .i64 0, .int .i64 0]) (t := 39) ?hr ?_; (case hd => rfl); (case hg => rfl); (case hr => first | (go_simp; done) | (go_simp; rfl)); intro gb251 hg w16 hbox hb; have n0_ := Aside0.mk (Kd.R_below (by (with_reducible repeat (first | apply Kd.R_alloc | apply Kd.R_drewN | apply Kd.R_drew)); exact HO_6.out) hb); have n1_ := Aside0.mk (below_step (by repeat (first | (with_reducible first | exact HB.out | apply below_alloc | apply pw_below_drewN | apply below_drew1) | exact HB.out)) hb); have n2_ := Aside0.mk (hbox); have n3_ := Aside0.mk ((by rw [hg]; exact (below_size (by repeat (first | (with_reducible first | exact HB.out | apply below_alloc | apply pw_below_drewN | apply below_drew1) | exact HB.out))) : w.heap.size ≤ gb251)); have n4_ := Aside0.mk ((by rw [hg]; exact (below_size (by repeat (first | (with_reducible first | exact HB.out | apply below_alloc | apply pw_below_drewN | apply below_drew1) | exact HB.out))) : w.heap.size ≤ gb251)); clear HO_6; clear HB; have HO_6 := n0_; have HB := n1_; have BK251 := n2_; have GW251 := n3_; have GE251 := n4_; clear n0_ n1_ n2_ n3_ n4_; clear hb hbox hg; have hcz17_0 : w16.cell? ⟨gb251, 0, none⟩ = some (.int .i64 0) := (blk_cell BK251.out 0).trans rfl; have hcz17_1 : w16.cell? ⟨gb251, 1, none⟩ = some (.int .i64 0) := (blk_cell BK251.out 1).trans rfl; have hfz17_0 := blk_frozen BK251.out 0; have hfz17_1 := blk_frozen BK251.out 1; obtain ⟨Ao18, co18, eo18⟩ := Kd.R_slice HO_6.out; subst eo18) | ((with_reducible refine gate_callee (f := 64) rfl ?_); refine goesL_ (some 29) rfl rfl Try.func64 (by kernel_rfl) rfl #[.slice Ao18 x6_2.length co18, .agg #[.int .i64 ((rd_T39 l1 x22_2).f0), .int .i64 ((rd_T39 l1 x22_2).f1)]] rfl (by (try simp only [List.map_toArray, List.map_cons, List.map_nil]); first | done | rfl | (simp only [List.length_drop, List.length_take]; rfl)) ?_; (with_reducible refine (impl_moved.calls _ _ x6_2 ((rd_T39 l1 x22_2).f0) ((rd_T39 l1 x22_2).f1) t252 true _ ?side1 ?side2 A14.out).mono ?_); (case side1 => refine (Kd.R_reads' (e := 3) (base := w.heap.size) (ok := fun k_ => True) (n := x6_2.length) (c := co18) ?_).2.2; exact (by (with_reducible repeat (first | apply Kd.R_alloc | apply Kd.R_drewN | apply Kd.R_drew)); exact (Kd.R_mono (Kd.R_far (p := ⟨gb251, 1, none⟩) (Kd.R_far (p := ⟨gb251, 0, none⟩) (Kd.R_types HO_6.out BK251.out (by decide)) (fun _ hk => hk.2) (.int .i64 ((rd_T39 l1 x22_2).f0))) (fun _ hk => hk.2) (.int .i64 ((rd_T39 l1 x22_2).f1))) (fun _ h_ => h_.1)))); (case side2 => exact (Kd.R_reads' HO_6.out).2.1); rintro e w19 ⟨v253, rfl, ho0, hb⟩; refine ⟨_, rfl, ?_⟩; have n0_ := Aside0.mk (Kd.R_elder' (by (with_reducible repeat (first | apply Kd.R_alloc | apply Kd.R_drewN | apply Kd.R_drew)); exact (Kd.R_mono (Kd.R_far (p := ⟨gb251, 1, none⟩) (Kd.R_far (p := ⟨gb251, 0, none⟩) (Kd.R_types HO_6.out BK251.out (by decide)) (fun _ hk => hk.2) (.int .i64 ((rd_T39 l1 x22_2).f0))) (fun _ hk => hk.2) (.int .i64 ((rd_T39 l1 x22_2).f1))) (fun _ h_ => h_.1))) (Kd.R_base ho0) hb); have n1_ := Aside0.mk (Kd.R_lower (Kd.R_new' ho0 (Kd.R_lt (by (with_reducible repeat (first | apply Kd.R_alloc | apply Kd.R_drewN | apply Kd.R_drew)); exact (Kd.R_mono (Kd.R_far (p := ⟨gb251, 1, none⟩) (Kd.R_far (p := ⟨gb251, 0, none⟩) (Kd.R_types HO_6.out BK251.out (by decide)) (fun _ hk => hk.2) (.int .i64 ((rd_T39 l1 x22_2).f0))) (fun _ hk => hk.2) (.int .i64 ((rd_T39 l1 x22_2).f1))) (fun _ h_ => h_.1))))) (below_size (by repeat (first | (with_reducible first | exact HB.out | apply below_alloc | apply pw_below_drewN | apply below_drew1 | refine below_set ?_ GE251.out) | exact HB.out)))); have n2_ := Aside0.mk (blk_below (g := gb251) (o := .cells #[.int .i64 ((rd_T39 l1 x22_2).f0), .int .i64 ((rd_T39 l1 x22_2).f1)] 39 (0, 0)) (by (with_reducible repeat (first | refine blk_drewN ?_ _ | refine blk_drew ?_ | refine blk_alloc ?_ _)); refine blk_put (cs := #[.int .i64 ((rd_T39 l1 x22_2).f0), .int .i64 0]) ?_ 1 _ rfl; (with_reducible repeat (first | refine blk_drewN ?_ _ | refine blk_drew ?_ | refine blk_alloc ?_ _)); refine blk_put (cs := #[.int .i64 0, .int .i64 0]) ?_ 0 _ rfl; (with_reducible repeat (first | refine blk_drewN ?_ _ | refine blk_drew ?_ | refine blk_alloc ?_ _)); exact BK251.out) hb); have n3_ := Aside0.mk (below_step (by repeat (first | (with_reducible first | exact HB.out | apply below_alloc | apply pw_below_drewN | apply below_drew1 | refine below_set ?_ GE251.out) | exact HB.out)) hb); clear HO_6; clear BK251; clear HB; have HO_6 := n0_; have HO254 := n1_; have BK251 := n2_; have HB := n3_; clear n0_ n1_ n2_ n3_; (try clear hb); (try clear hb2); (try clear hk); (try clear hi); (try clear ho0)))
          go_roundg k2
          case measure => have := HJ2.out; have := HK2.out; omega
          case rel => exact ⟨(t252), (wrap64 (x22_2 + 1)), (by first | rfl | (simp; done) | (simp [*]; done)), H', ⟨by have := HJ2.out; have := HK2.out; omega⟩, ⟨by (with_reducible repeat (first | apply Kd.R_alloc | apply Kd.R_drewN | apply Kd.R_drew)); exact Kd.R_mono HO254.out (fun _ hk => trivial)⟩, ⟨by repeat (first | (with_reducible first | exact HB.out | apply below_alloc | apply pw_below_drewN | apply below_drew1 | refine below_set ?_ GE251.out) | exact HB.out)⟩⟩
         ·replace c15 := Bool.eq_false_iff.mpr c15
          subst c15
          have H1 : (some (([] : List Int), false)) = some (r1, r2) := by rw [if_neg (show ¬ (false = true) by decide)] at H; exact H
          clear H
          have H := H1
          clear H1
          simp only [Option.some.injEq, Prod.mk.injEq] at H
          obtain ⟨rfl, rfl⟩ := H
          have p250 : 0 ≤ (x22_2 : Int) := of_decide_eq_true (by first | (with_reducible assumption) | assumption)
          have q250 : x22_2 < (l1.length : Int) := of_decide_eq_true (by first | (with_reducible assumption) | assumption)
          obtain ⟨ad250, e250, hx250_0, hx250_1⟩ := at_T39 HR1.out x22_2 p250 q250
          cases e250
          replace hx250_0 := (HB.out.cell (World.block_lt_of_cell? w _ hx250_0)).trans hx250_0
          replace hx250_1 := (HB.out.cell (World.block_lt_of_cell? w _ hx250_1)).trans hx250_1
          replace p250 := eq_true p250
          replace q250 := eq_true q250
          go_wp2_with (first | ((with_reducible refine gate_dst (N := 9) rfl ?_); (try (refine gate_guard (by rfl) ?_; dsimp only)); refine box_event ?hg (N := 9) ?hd (cs := #[.int .i64 0, .int .i64 0]) (t := 39) ?hr ?_; (case hd => rfl); (case hg => rfl); (case hr => first | (go_simp; done) | (go_simp; rfl)); intro gb251 hg w20 hbox hb; have n0_ := Aside0.mk (Kd.R_below (by (with_reducible repeat (first | apply Kd.R_alloc | apply Kd.R_drewN | apply Kd.R_drew)); exact HO_6.out) hb); have n1_ := Aside0.mk (below_step (by repeat (first | (with_reducible first | exact HB.out | apply below_alloc | apply pw_below_drewN | apply below_drew1) | exact HB.out)) hb); have n2_ := Aside0.mk (hbox); have n3_ := Aside0.mk ((by rw [hg]; exact (below_size (by repeat (first | (with_reducible first | exact HB.out | apply below_alloc | apply pw_below_drewN | apply below_drew1) | exact HB.out))) : w.heap.size ≤ gb251)); have n4_ := Aside0.mk ((by rw [hg]; exact (below_size (by repeat (first | (with_reducible first | exact HB.out | apply below_alloc | apply pw_below_drewN | apply below_drew1) | exact HB.out))) : w.heap.size ≤ gb251)); clear HO_6; clear HB; have HO_6 := n0_; have HB := n1_; have BK251 := n2_; have GW251 := n3_; have GE251 := n4_; clear n0_ n1_ n2_ n3_ n4_; clear hb hbox hg; have hcz21_0 : w20.cell? ⟨gb251, 0, none⟩ = some (.int .i64 0) := (blk_cell BK251.out 0).trans rfl; have hcz21_1 : w20.cell? ⟨gb251, 1, none⟩ = some (.int .i64 0) := (blk_cell BK251.out 1).trans rfl; have hfz21_0 := blk_frozen BK251.out 0; have hfz21_1 := blk_frozen BK251.out 1; obtain ⟨Ao22, co22, eo22⟩ := Kd.R_slice HO_6.out; subst eo22) | ((with_reducible refine gate_callee (f := 64) rfl ?_); refine goesL_ (some 29) rfl rfl Try.func64 (by kernel_rfl) rfl #[.slice Ao22 x6_2.length co22, .agg #[.int .i64 ((rd_T39 l1 x22_2).f0), .int .i64 ((rd_T39 l1 x22_2).f1)]] rfl (by (try simp only [List.map_toArray, List.map_cons, List.map_nil]); first | done | rfl | (simp only [List.length_drop, List.length_take]; rfl)) ?_; (with_reducible refine (impl_moved.calls _ _ x6_2 ((rd_T39 l1 x22_2).f0) ((rd_T39 l1 x22_2).f1) t252 false _ ?side1 ?side2 A14.out).mono ?_); (case side1 => refine (Kd.R_reads' (e := 3) (base := w.heap.size) (ok := fun k_ => True) (n := x6_2.length) (c := co22) ?_).2.2; exact (by (with_reducible repeat (first | apply Kd.R_alloc | apply Kd.R_drewN | apply Kd.R_drew)); exact (Kd.R_mono (Kd.R_far (p := ⟨gb251, 1, none⟩) (Kd.R_far (p := ⟨gb251, 0, none⟩) (Kd.R_types HO_6.out BK251.out (by decide)) (fun _ hk => hk.2) (.int .i64 ((rd_T39 l1 x22_2).f0))) (fun _ hk => hk.2) (.int .i64 ((rd_T39 l1 x22_2).f1))) (fun _ h_ => h_.1)))); (case side2 => exact (Kd.R_reads' HO_6.out).2.1); rintro e w23 ⟨v253, rfl, ho0, hb⟩; refine ⟨_, rfl, ?_⟩; have n0_ := Aside0.mk (Kd.R_elder' (by (with_reducible repeat (first | apply Kd.R_alloc | apply Kd.R_drewN | apply Kd.R_drew)); exact (Kd.R_mono (Kd.R_far (p := ⟨gb251, 1, none⟩) (Kd.R_far (p := ⟨gb251, 0, none⟩) (Kd.R_types HO_6.out BK251.out (by decide)) (fun _ hk => hk.2) (.int .i64 ((rd_T39 l1 x22_2).f0))) (fun _ hk => hk.2) (.int .i64 ((rd_T39 l1 x22_2).f1))) (fun _ h_ => h_.1))) (Kd.R_base ho0) hb); have n1_ := Aside0.mk (Kd.R_lower (Kd.R_new' ho0 (Kd.R_lt (by (with_reducible repeat (first | apply Kd.R_alloc | apply Kd.R_drewN | apply Kd.R_drew)); exact (Kd.R_mono (Kd.R_far (p := ⟨gb251, 1, none⟩) (Kd.R_far (p := ⟨gb251, 0, none⟩) (Kd.R_types HO_6.out BK251.out (by decide)) (fun _ hk => hk.2) (.int .i64 ((rd_T39 l1 x22_2).f0))) (fun _ hk => hk.2) (.int .i64 ((rd_T39 l1 x22_2).f1))) (fun _ h_ => h_.1))))) (below_size (by repeat (first | (with_reducible first | exact HB.out | apply below_alloc | apply pw_below_drewN | apply below_drew1 | refine below_set ?_ GE251.out) | exact HB.out)))); have n2_ := Aside0.mk (blk_below (g := gb251) (o := .cells #[.int .i64 ((rd_T39 l1 x22_2).f0), .int .i64 ((rd_T39 l1 x22_2).f1)] 39 (0, 0)) (by (with_reducible repeat (first | refine blk_drewN ?_ _ | refine blk_drew ?_ | refine blk_alloc ?_ _)); refine blk_put (cs := #[.int .i64 ((rd_T39 l1 x22_2).f0), .int .i64 0]) ?_ 1 _ rfl; (with_reducible repeat (first | refine blk_drewN ?_ _ | refine blk_drew ?_ | refine blk_alloc ?_ _)); refine blk_put (cs := #[.int .i64 0, .int .i64 0]) ?_ 0 _ rfl; (with_reducible repeat (first | refine blk_drewN ?_ _ | refine blk_drew ?_ | refine blk_alloc ?_ _)); exact BK251.out) hb); have n3_ := Aside0.mk (below_step (by repeat (first | (with_reducible first | exact HB.out | apply below_alloc | apply pw_below_drewN | apply below_drew1 | refine below_set ?_ GE251.out) | exact HB.out)) hb); clear HO_6; clear BK251; clear HB; have HO_6 := n0_; have HO254 := n1_; have BK251 := n2_; have HB := n3_; clear n0_ n1_ n2_ n3_; (try clear hb); (try clear hb2); (try clear hk); (try clear hi); (try clear ho0)))
          go_ret2
          exact ⟨_, by first | rfl | (simp [errW_none, errW_some] <;> rfl) | (simp [*, errW_none, errW_some] <;> rfl), by first | exact Kd.R_nil _ _ _ _ _ | exact Kd.N_nil _ _ _ _ _ | exact Kd.V_nil _ _ _ _ _ | exact Kd.Q_nil _ _ _ _ _ | exact Kd.S_nil _ _ _ _ _, by repeat (first | (with_reducible first | exact HB.out | apply below_alloc | apply pw_below_drewN | apply below_drew1 | refine below_set ?_ GE251.out) | exact HB.out)⟩
        ·rw [if_neg c13] at H
         exact absurd H (by simp)
       ·rw [if_neg c12] at H
        exact absurd H (by simp)
      ·rw [if_neg c11] at H
       have c11b0 : decide (x22_2 < (l1.length : Int)) = false := decide_eq_false c11
       clear c11
       simp only [Option.some.injEq, Prod.mk.injEq] at H
       obtain ⟨rfl, rfl⟩ := H
       go_wp2
       go_ret2
       exact ⟨_, by first | rfl | (simp [errW_none, errW_some] <;> rfl) | (simp [*, errW_none, errW_some] <;> rfl), by (with_reducible repeat (first | apply Kd.R_alloc | apply Kd.R_drewN | apply Kd.R_drew)); exact HO_6.out, by repeat (first | (with_reducible first | exact HB.out | apply below_alloc | apply pw_below_drewN | apply below_drew1) | exact HB.out)⟩

/-! ### impl_Move: function 63 -/
theorem impl_Move.calls (A0 : Option Addr) (c0 len : Nat) (w : World) :
  Calls Try.prog 63 #[.slice A0 len c0] w fun e w' => e = .returned (.func (.func 83) #[] #[.pointer (some ⟨w.heap.size, 0, none⟩)]) ∧ w' = w.alloc (.cells #[.slice A0 len c0] 28) := by
 go_enter Try.func63, Try.ntmps63
 go_wp2
 go_ret
 exact ⟨rfl, rfl⟩
/-- What a round keeps: what lay below n0, and the box of the slice. -/
def impl_Move.Kp (n0 Bs : Nat) (X Y : World) : Prop := Below n0 X Y ∧ Y.heap[Bs]? = X.heap[Bs]?
theorem impl_Move.Kp_t {n0 Bs : Nat} {X Y Z : World} (h : impl_Move.Kp n0 Bs X Y) (k : impl_Move.Kp n0 Bs Y Z) : impl_Move.Kp n0 Bs X Z := ⟨h.1.trans k.1, k.2.trans h.2⟩
theorem impl_Move.Kp_b {n0 Bs N : Nat} (hn : n0 ≤ N) (hB : Bs < N) (W : World) (l : Nat) (o o' : Obj) (hl : N ≤ l) (h : W.heap[l]? = some o) (_ : o.isCells = false) (_ : o.isWalk = false) : impl_Move.Kp n0 Bs W (W.putObj l o') :=
 ⟨(Below.refl n0 W).grown (grownBy_putObj' W l o') (by have := (Array.getElem?_eq_some_iff.1 h).1; omega) (fun k e => by cases e; omega), World.putObj_heap_other (by omega)⟩
set_option maxRecDepth 100000 in
set_option maxHeartbeats 4000000 in
theorem impl_Move.stops (n : Nat) (hn : 1 ≤ n) (Bs : Nat) (A0 : Option Addr) (c0 : Nat) (l0 : List (S39)) (w w1 : World) (hBs : Bs < w1.heap.size) (hb1 : Below w.heap.size w w1) (hc : Boxed w1 Bs 28 (.slice A0 l0.length c0)) (hr : Kd.C k39 w A0 l0.length l0) :
  SeqStopsK Fence.wide n Try.prog 83 #[.pointer (some ⟨Bs, 0, none⟩)] (fun x : Int × S39 => #[.int .i64 x.1, .agg #[.int .i64 ((x.2).f0), .int .i64 ((x.2).f1)]]) (impl_Move.Kp w.heap.size Bs) (fun ys => ys = backs l0) (fun pre => pre <+: backs l0) l0.length w1 := fun l J Jx W hW hJ hJx hY h0 => by
 have HR0 := Aside0.mk hr
 have HX := Aside0.mk (show Boxed W Bs 28 (.slice A0 l0.length c0) from (hW.block Bs hBs).trans hc)
 have HB0 := Aside0.mk (hb1.trans (hW.mono hb1.size))
 have hc' := HX.out.cell
 have HM := Aside0.mk (Kd.C_max hr)
 clear hr hc hW hb1
 refine callsIn_of_wp Try.func83 rfl trivial ?_ rfl
 simp only [Try.ntmps83, List.size_toArray, List.length_cons, List.length_nil, Nat.reduceAdd, Nat.reduceSub, Array.replicate_succ, Array.replicate_zero, List.push_toArray, List.append_toArray, List.nil_append, List.cons_append]
 gi_wp2
 gi_loopw [3] (fun v wr => ∃ x : Int, v = .int .i64 x ∧ Aside0 (-1 ≤ x ∧ x + 1 ≤ (l0.length : Int)) ∧ J ((backs l0).take ((l0.length : Int) - 1 - x).toNat) wr ∧ Aside0 (Below w.heap.size w wr) ∧ Aside0 (Boxed wr Bs 28 (.slice A0 l0.length c0))) (fun v _ => (intOf v + 1).toNat)
 case atStart =>
  have hm := HM.out
  refine ⟨(l0.length : Int) - 1, ?_, ⟨by omega, by omega⟩, ?_, HB0, HX⟩
  ·rw [show wrap64 ((l0.length : Int) - 1) = (l0.length : Int) - 1 by unfold wrap64; omega]
  ·rw [show ((l0.length : Int) - 1 - ((l0.length : Int) - 1)).toNat = 0 by omega, List.take_zero]; exact h0
 case round =>
  obtain ⟨x, rfl, HI, hJs, HB, HX1⟩ := hrel
  have hcB := HX1.out.cell
  have HW := Aside0.mk (show 0 ≤ x → wrap64 (x - 1) = x - 1 from fun h => by have h1 := HI.out; have h2 := HM.out; unfold wrap64; omega)
  by_cases hlt : 0 ≤ x
  ·have hx1 : x < (l0.length : Int) := by have := HI.out; omega
   have p0 := eq_true hlt
   have q0 := eq_true hx1
   have p1 : decide (0 ≤ x) = true := decide_eq_true hlt
   have q1 : decide (x < (l0.length : Int)) = true := decide_eq_true hx1
   obtain ⟨ad, e, hx_0, hx_1⟩ := at_T39 HR0.out x hlt hx1
   cases e
   replace hx_0 := (HB.out.cell (World.block_lt_of_cell? w _ hx_0)).trans hx_0
   replace hx_1 := (HB.out.cell (World.block_lt_of_cell? w _ hx_1)).trans hx_1
   have HL := Aside0.mk hlt
   have HL1 := Aside0.mk hx1
   obtain ⟨fn, tmps, assign, body, hy, hR⟩ := hY _ (x, rd_T39 l0 x) wr hJs (by rw [List.length_take, backs_length]; omega)
   clear hlt hx1
   dsimp only at hy
   gi_wp2
   refine hR.mono ?_
   rintro e W3 (⟨rfl, hJ3, hk3⟩ | ⟨rfl, hJx3⟩)
   ·have HX3 : Aside0 (Boxed W3 Bs 28 (.slice _ l0.length c0)) := ⟨hk3.2.trans HX1.out⟩
    have HB3 := Aside0.mk (HB.out.trans hk3.1)
    clear hk3
    gi_wp2
    go_roundw
    case rel =>
     refine ⟨x - 1, by rw [HW.out HL.out], ⟨by have := HL.out; omega, by have := HI.out; omega⟩, ?_, HB3, HX3⟩
     rw [backs_step z39 l0 HL.out HL1.out]
     exact hJ3
    case measure => rw [HW.out HL.out]; simp [intOf]; have h1 := HI.out; have h2 := HL.out; omega
   ·gi_wp2
    refine bodyPost_ret (results_none rfl _ _ _) rfl ?_
    exact ⟨⟨_, rfl⟩, .inr ⟨_, by have h_ := List.take_prefix ((l0.length : Int) - 1 - (x - 1)).toNat (backs l0); rw [backs_step z39 l0 HL.out HL1.out] at h_; exact h_, hJx3⟩⟩
  ·have p1 : decide (0 ≤ x) = false := decide_eq_false hlt
   have HL := Aside0.mk hlt
   clear hlt
   gi_wp2
   go_end0
   have h1 := HI.out
   have h2 := HL.out
   rw [List.take_of_length_le (by rw [backs_length]; omega)] at hJs
   exact ⟨⟨_, rfl⟩, .inl hJs⟩

/-! ### impl_start: function 78 -/
def impl_start.go : List Int → List S39 → Option (List Int)
 | l, [] => some l
 | l, m :: ms => match impl_moved.f l m.f1 m.f0 with
  | some (l', true) => impl_start.go l' ms
  | _ => none
theorem impl_start.go_snoc : ∀ (a : List S39) (l : List Int) (m : S39), impl_start.go l (a ++ [m]) = (impl_start.go l a).bind fun l' => impl_start.go l' [m]
 | [], _, _ => rfl
 | x :: a, l, m => by
  show (match impl_moved.f l x.f1 x.f0 with | some (l', true) => impl_start.go l' (a ++ [m]) | _ => none) = _
  show _ = (match impl_moved.f l x.f1 x.f0 with | some (l', true) => impl_start.go l' a | _ => none).bind _
  split
  ·exact impl_start.go_snoc a _ m
  ·rfl
theorem impl_start.go_none {a b : List S39} {l : List Int} (h : impl_start.go l a = none) : impl_start.go l (a ++ b) = none := by
 induction a generalizing l with
 | nil => cases h
 | cons x a ih =>
  show (match impl_moved.f l x.f1 x.f0 with | some (l', true) => impl_start.go l' (a ++ b) | _ => none) = none
  have h' : (match impl_moved.f l x.f1 x.f0 with | some (l', true) => impl_start.go l' a | _ => none) = none := h
  split
  case h_1 heq => rw [heq] at h'; exact ih h'
  case h_2 => rfl
def impl_start.f (l0 : List Int) (l1 : List S39) : Option (List Int × Bool) := (slices_Clone_int_int.f l0).bind fun t => match impl_start.go t l1.reverse with
 | some l => some (l, true)
 | none => some ([], false)
theorem impl_start.mv (l : List Int) (a b : Int) (h : l.length < 17592186044416) : ∃ l' ok, impl_moved.f l a b = some (l', ok) ∧ l'.length ≤ l.length ∧ (ok = false → l' = []) := by
 unfold impl_moved.f
 rw [if_pos h]
 split
 ·exact ⟨_, true, rfl, by simp, fun h => by cases h⟩
 ·exact ⟨[], false, rfl, by simp, fun _ => rfl⟩
set_option maxRecDepth 100000 in
set_option maxHeartbeats 8000000 in
theorem impl_start.calls (A0 : Option Addr) (c0 : Nat) (l0 : List Int) (A1 : Option Addr) (c1 : Nat) (l1 : List S39) (r1 : List Int) (r2 : Bool) (w : World) (hr0 : Kd.C (Kd.int .i64) w A0 l0.length l0) (hc0 : l0.length ≤ c0) (hr1 : Kd.C k39 w A1 l1.length l1) (hc1 : l1.length ≤ c1) (h : impl_start.f l0 l1 = some (r1, r2)) :
  Calls Try.prog 78 #[.slice A0 l0.length c0, .slice A1 l1.length c1] w fun e w' => ∃ v0_ : Value, e = .returned (.tuple #[v0_, .bool r2]) ∧ Kd.R (Kd.int .i64) 3 w' w.heap.size (fun _ => True) v0_ r1 ∧ Below w.heap.size w w' := by
 unfold impl_start.f at h
 cases hcl : slices_Clone_int_int.f l0 with
 | none => rw [hcl] at h; cases h
 | some t =>
 rw [hcl, Option.bind_some] at h
 have htl : t.length < 17592186044416 := by
  unfold slices_Clone_int_int.f at hcl
  split at hcl
  case isTrue hh => obtain rfl := Option.some.inj hcl; exact hh
  case isFalse => cases hcl
 have HC := Aside0.mk (slices_Clone_int_int.calls A0 c0 l0 t ((w.alloc (.cells #[.slice none 0 0] 22)).alloc (.cells #[.bool false] 4)) (Kd.C_alloc (Kd.C_alloc hr0 _) _) hc0 hcl)
 have HR1 := Aside0.mk hr1
 have HG := Aside0.mk h
 have hu := Try.underlying39
 clear hr0 hr1 h hc0 hc1 hcl
 refine (callsIn_wide (n := 6)).1 ?_
 have h1 : 1 ≤ 6 := by decide
 have hfC : Fence.wide.fn 66 := trivial
 have hfB : Fence.wide.fn 63 := trivial
 have hfM : Fence.wide.fn 64 := trivial
 refine callsIn_of_wp_marks Try.func78 rfl trivial ?_ rfl
 simp only [Try.ntmps78, List.size_toArray, List.length_cons, List.length_nil, Nat.reduceAdd, Nat.reduceSub, Array.replicate_succ, Array.replicate_zero, List.push_toArray, List.append_toArray, List.nil_append, List.cons_append]
 gi_wp2_with (first
  | (gi_at_call 66; refine (callsIn_wide.2 HC.out).mono ?_; clear HC; rintro e W1 ⟨v, rfl, hR, hb⟩; obtain ⟨A2, c2, rfl⟩ := Kd.R_slice hR; have HR := Aside0.mk hR; have HB1 := Aside0.mk hb; clear hR hb)
  | (gi_at_call 63; refine (callsIn_wide.2 (impl_Move.calls _ _ _ _)).mono ?_; rintro e w' ⟨rfl, rfl⟩))
 have hs1 : w.heap.size + 2 ≤ W1.heap.size := by have := HB1.out.size; simp at this; omega
 have b4 : Boxed W1 w.heap.size 22 (.slice none 0 0) := (HB1.out.block w.heap.size (by simp; omega)).trans ((Boxed.new w 22 (.slice none 0 0)).alloc _)
 have b5 : Boxed W1 (w.heap.size + 1) 4 (.bool false) := (HB1.out.block (w.heap.size + 1) (by simp)).trans (by have h_ := Boxed.new (w.alloc (.cells #[.slice none 0 0] 22)) 4 (.bool false); rw [World.size_alloc] at h_; exact h_)
 have hB0 : Below w.heap.size w W1 := (((Below.refl _ w).alloc (Nat.le_refl _) _).alloc (by simp) _).trans (HB1.out.mono (by simp; omega))
 have hB2 : Below w.heap.size w (((W1.alloc (.cells #[.slice A2 t.length c2] 22)).alloc (.cells #[.bool true] 4)).alloc (.cells #[.slice A1 l1.length c1] 28)) := ((hB0.alloc hB0.size _).alloc (by have := hB0.size; simp; omega) _).alloc (by have := hB0.size; simp; omega) _
 have hR2 : Kd.R (Kd.int .i64) 3 (((W1.alloc (.cells #[.slice A2 t.length c2] 22)).alloc (.cells #[.bool true] 4)).alloc (.cells #[.slice A1 l1.length c1] 28)) w.heap.size (fun _ => True) (.slice A2 t.length c2) t := Kd.R_lower (Kd.R_alloc (Kd.R_alloc (Kd.R_alloc HR.out _) _) _) (by simp; omega)
 have b4' := ((b4.alloc (.cells #[.slice A2 t.length c2] 22)).alloc (.cells #[.bool true] 4)).alloc (.cells #[.slice A1 l1.length c1] 28)
 have b5' := ((b5.alloc (.cells #[.slice A2 t.length c2] 22)).alloc (.cells #[.bool true] 4)).alloc (.cells #[.slice A1 l1.length c1] 28)
 have b6' := ((Boxed.new W1 22 (.slice A2 t.length c2)).alloc (.cells #[.bool true] 4)).alloc (.cells #[.slice A1 l1.length c1] 28)
 have b7' := (Boxed.new (W1.alloc (.cells #[.slice A2 t.length c2] 22)) 4 (.bool true)).alloc (.cells #[.slice A1 l1.length c1] 28)
 have bX' := Boxed.new ((W1.alloc (.cells #[.slice A2 t.length c2] 22)).alloc (.cells #[.bool true] 4)) 28 (.slice A1 l1.length c1)
 simp only [World.size_alloc] at b7' bX'
 have hsz : (((W1.alloc (.cells #[.slice A2 t.length c2] 22)).alloc (.cells #[.bool true] 4)).alloc (.cells #[.slice A1 l1.length c1] 28)).heap.size = W1.heap.size + 3 := by simp
 clear HB1 HR b4 b5 hB0
 obtain ⟨W2, hW2⟩ : ∃ W2, ((W1.alloc (.cells #[.slice A2 t.length c2] 22)).alloc (.cells #[.bool true] 4)).alloc (.cells #[.slice A1 l1.length c1] 28) = W2 := ⟨_, rfl⟩
 rw [hW2] at b4' b5' b6' b7' bX' hB2 hR2 hsz ⊢
 clear hW2
 have own1 : ∀ {B : Nat} {tt : TypeId} {v : Value} {X Y : World} {row : Option Nat}, Boxed X B tt v → X.grownBy Y row → (∀ r, row = some r → W2.heap.size ≤ r ∧ ∃ o : Obj, X.heap[r]? = some o ∧ o.isCells = false) → Boxed Y B tt v := fun {B tt v X Y row} hb hg hr => boxed_own B tt (fun _ : Unit => v) () X Y row hb hg (fun r e => (hr r e).2)
 refine wpIn_rangeFunc_ownH rfl h1 (gf := 83) (lb := #[.pointer (some ⟨W1.heap.size + 1 + 1, 0, none⟩)]) rfl trivial (enters_of Try.func83 (by kernel_rfl) rfl)
  (impl_Move.stops 5 (by decide) (W1.heap.size + 1 + 1) A1 c1 l1 w W2 (by omega) hB2 bX' HR1.out) impl_Move.Kp_t (impl_Move.Kp_b (by omega) (by omega)) (Below.refl _ _) (fun _ => rfl)
  (fun pre W => ∃ (v : Value) (l : List Int), (Boxed W W1.heap.size 22 v ∧ Kd.R (Kd.int .i64) 3 W w.heap.size (fun _ => True) v l ∧ impl_start.go t (pre.map Prod.snd) = some l ∧ l.length ≤ t.length) ∧ (Boxed W (W1.heap.size + 1) 4 (.bool true) ∧ Boxed W w.heap.size 22 (.slice none 0 0) ∧ Boxed W (w.heap.size + 1) 4 (.bool false)) ∧ W2.heap.size ≤ W.heap.size ∧ Below w.heap.size w W)
  (fun c pre W => c = .ret ∧ impl_start.go t (pre.map Prod.snd) = none ∧ (Boxed W w.heap.size 22 (.slice none 0 0) ∧ Boxed W (w.heap.size + 1) 4 (.bool false)) ∧ Below w.heap.size w W)
  (fun s X Y row hs hg hr => by
   obtain ⟨v, l, ⟨k1, k2, k3⟩, ⟨k4, k5, k6⟩, k9, k7⟩ := hs
   exact ⟨v, l, ⟨own1 k1 hg hr, R_ownFrom W2.heap.size () X Y row k2 hg hr, k3⟩, ⟨own1 k4 hg hr, own1 k5 hg hr, own1 k6 hg hr⟩, Nat.le_trans k9 hg.size, ownFrom_below (β := Unit) (Nat.le_refl _) (by omega) () X Y row k7 hg hr⟩)
  (fun c s X Y row hs hg hr => by
   obtain ⟨k0, k1, ⟨k2, k3⟩, k4⟩ := hs
   exact ⟨k0, k1, ⟨own1 k2 hg hr, own1 k3 hg hr⟩, ownFrom_below (β := Unit) (Nat.le_refl _) (by omega) () X Y row k4 hg hr⟩)
  ⟨.slice A2 t.length c2, t, ⟨b6', hR2, rfl, Nat.le_refl _⟩, ⟨b7', b4', b5'⟩, Nat.le_refl _, hB2⟩
  (fun x a' W => ∃ Bx, W2.heap.size ≤ Bx ∧ W.heap[Bx]? = some (.cells #[.int .i64 x.2.f0, .int .i64 x.2.f1] 39 (0, 0)) ∧ a' = { tmps := #[.slice A0 l0.length c0, .slice A1 l1.length c1, undef, undef, .pointer (some ⟨w.heap.size, 0, none⟩), .pointer (some ⟨w.heap.size + 1, 0, none⟩), .pointer (some ⟨W1.heap.size, 0, none⟩), .pointer (some ⟨W1.heap.size + 1, 0, none⟩), undef, .pointer (some ⟨Bx, 0, none⟩), .slice A0 l0.length c0, .slice A2 t.length c2, .slice A1 l1.length c1, .func (.func 83) #[] #[.pointer (some ⟨W1.heap.size + 1 + 1, 0, none⟩)], .int .i64 x.1, .agg #[.int .i64 x.2.f0, .int .i64 x.2.f1], undef, undef, undef, undef, undef, undef, undef, undef, undef, undef, undef, undef, undef], defers := [] })
  (fun x a' _ X Y row hs hg hr => by
   obtain ⟨Bx, k1, k2, k3⟩ := hs
   exact ⟨Bx, k1, (hg.block Bx (Array.getElem?_eq_some_iff.1 k2).1 (fun er => by obtain ⟨_, o, ho, hc⟩ := hr Bx er.symm; rw [k2] at ho; cases ho; cases hc)).trans k2, k3⟩)
  ?assign ?body ?done ?stop
 case assign =>
  rintro l pre x W K ⟨v, lc, ⟨k1, k2, k3⟩, ⟨k4, k5, k6⟩, k9, k7⟩ hK
  gi_wp2_with gi_round_op_a
  exact hK _ _ ((KeepsOthers.alloc _ _).from _) ⟨(Below.refl _ W).alloc k7.size _, Below.heap_alloc W _ _ (by omega)⟩ ⟨v, lc, ⟨k1.alloc _, Kd.R_alloc k2 _, k3⟩, ⟨k4.alloc _, k5.alloc _, k6.alloc _⟩, by simp; omega, k7.alloc k7.size _⟩ ⟨W.heap.size, k9, World.alloc_heap_new W _, rfl⟩
 case body =>
  rintro l pre x a' W hl ⟨r, hr⟩ ⟨v, lc, ⟨k1, k2, k3, k8⟩, ⟨k4, k5, k6⟩, k9, k7⟩ ⟨Bx, hBx, bx, rfl⟩ hlt
  obtain ⟨A3, c3, rfl⟩ := Kd.R_slice k2
  obtain ⟨hn3, hc3, hC3⟩ := Kd.R_reads' k2
  obtain ⟨l', ok, hmv, hl', hok⟩ := impl_start.mv lc x.2.f1 x.2.f0 (by omega)
  have HM := Aside0.mk (impl_moved.calls A3 c3 lc x.2.f1 x.2.f0 l' ok W hC3 (by omega) hmv)
  have c6 := k1.cell
  have f6 := k1.frozen
  have c7 := k4.cell
  have f7 := k4.frozen
  have cx0 : W.cell? ⟨Bx, 0, none⟩ = some (.int .i64 x.2.f0) := (blk_cell bx 0).trans rfl
  have cx1 : W.cell? ⟨Bx, 1, none⟩ = some (.int .i64 x.2.f1) := (blk_cell bx 1).trans rfl
  have h1' : 1 ≤ 6 - 1 - 1 := by decide
  have hsz1 : W2.heap.size ≤ W.heap.size := k9
  have hw0 := k7.size
  cases ok with
  | true =>
   gi_wp2_with (first
    | (gi_at_call 64; refine (CallsIn.inRound l (callsIn_wide.2 HM.out)).mono ?_; clear HM; rintro e W3 ⟨v3, rfl, hR3, hb3⟩; obtain ⟨A4, c4, rfl⟩ := Kd.R_slice hR3; have b63 : Boxed W3 W1.heap.size 22 (.slice A3 lc.length c3) := (hb3.block _ k1.lt).trans k1; have b73 : Boxed W3 (W1.heap.size + 1) 4 (.bool true) := (hb3.block _ k4.lt).trans k4; have b43 : Boxed W3 w.heap.size 22 (.slice none 0 0) := (hb3.block _ k5.lt).trans k5; have b53 : Boxed W3 (w.heap.size + 1) 4 (.bool false) := (hb3.block _ k6.lt).trans k6; have c63 := b63.cell; have f63 := b63.frozen; have c73 := b73.cell; have f73 := b73.frozen; have HR3 := Aside0.mk hR3; clear hR3)
    | gi_round_op_a)
   have hset6 := Boxed.set (.slice A4 l'.length c4) b63
   have hR5 : Kd.R (Kd.int .i64) 3 ((W3.setCell ⟨W1.heap.size, 0, none⟩ (.slice A4 l'.length c4)).setCell ⟨W1.heap.size + 1, 0, none⟩ (.bool true)) w.heap.size (fun _ => True) (.slice A4 l'.length c4) l' :=
    Kd.R_set (Kd.R_set (Kd.R_lower HR3.out k7.size) b63 (by decide) 0 _) ((b73.other (by omega) _)) (by decide) 0 _
   refine ⟨((keeps_below hb3).trans ((KeepsOthers.setCell _ _ _).from _)).trans ((KeepsOthers.setCell _ _ _).from _),
    ⟨((hb3.mono k7.size).setCell (p := ⟨W1.heap.size, 0, none⟩) (by simp; omega) _).setCell (p := ⟨W1.heap.size + 1, 0, none⟩) (by simp; omega) _, ((Below.heap_setCell _ ⟨W1.heap.size + 1, 0, none⟩ _ _ (by simp)).trans (Below.heap_setCell _ ⟨W1.heap.size, 0, none⟩ _ _ (by simp; omega))).trans (hb3.block _ (by omega))⟩,
    _, l', ⟨(Boxed.set _ b63).other (by omega) _, hR5, ?_, by omega⟩, ⟨(b73.other (by omega) _).set _, (b43.other (by omega) _).other (by omega) _, (b53.other (by omega) _).other (by omega) _⟩, ?_, ?_⟩
   ·rw [List.map_append, List.map_cons, List.map_nil, impl_start.go_snoc, k3, Option.bind_some]
    show (match impl_moved.f lc x.2.f1 x.2.f0 with | some (l', true) => impl_start.go l' [] | _ => none) = some l'
    rw [hmv]
    rfl
   ·have h_ := hb3.size
    simp
    omega
   ·exact ((k7.trans (hb3.mono k7.size)).setCell (p := ⟨W1.heap.size, 0, none⟩) (by simp; omega) _).setCell (p := ⟨W1.heap.size + 1, 0, none⟩) (by simp; omega) _
  | false =>
   obtain rfl := hok rfl
   gi_wp2_with (first
    | (gi_at_call 64; refine (CallsIn.inRound l (callsIn_wide.2 HM.out)).mono ?_; clear HM; rintro e W3 ⟨v3, rfl, hR3, hb3⟩; obtain ⟨A4, c4, rfl⟩ := Kd.R_slice hR3; have b63 : Boxed W3 W1.heap.size 22 (.slice A3 lc.length c3) := (hb3.block _ k1.lt).trans k1; have b73 : Boxed W3 (W1.heap.size + 1) 4 (.bool true) := (hb3.block _ k4.lt).trans k4; have b43 : Boxed W3 w.heap.size 22 (.slice none 0 0) := (hb3.block _ k5.lt).trans k5; have b53 : Boxed W3 (w.heap.size + 1) 4 (.bool false) := (hb3.block _ k6.lt).trans k6; have c63 := b63.cell; have f63 := b63.frozen; have c73 := b73.cell; have f73 := b73.frozen; have c43 := b43.cell; have f43 := b43.frozen; have c53 := b53.cell; have f53 := b53.frozen)
    | gi_round_op_a)
   refine ⟨((((keeps_below hb3).trans ((KeepsOthers.setCell _ _ _).from _)).trans ((KeepsOthers.setCell _ _ _).from _)).trans ((KeepsOthers.setCell _ _ _).from _)).trans ((KeepsOthers.setCell _ _ _).from _), rfl, ?_, ⟨?_, ?_⟩, ?_⟩
   ·rw [List.map_append, List.map_cons, List.map_nil, impl_start.go_snoc, k3, Option.bind_some]
    show (match impl_moved.f lc x.2.f1 x.2.f0 with | some (l', true) => impl_start.go l' [] | _ => none) = none
    rw [hmv]
   ·exact (((b43.other (by omega) _).other (by omega) _).set _).other (by omega) _
   ·exact (((b53.other (by omega) _).other (by omega) _).other (by omega) _).set _
   ·exact ((((k7.trans (hb3.mono k7.size)).setCell (p := ⟨W1.heap.size, 0, none⟩) (by simp; omega) _).setCell (p := ⟨W1.heap.size + 1, 0, none⟩) (by simp; omega) _).setCell (p := ⟨w.heap.size, 0, none⟩) (by simp) _).setCell (p := ⟨w.heap.size + 1, 0, none⟩) (by simp) _
 case done =>
  rintro D xs W hD rfl ⟨v, lc, ⟨k1, k2, k3, k8⟩, ⟨k4, k5, k6⟩, k9, k7⟩ hK
  obtain ⟨A3, c3, rfl⟩ := Kd.R_slice k2
  have c6 := k1.cell
  have c4 := k5.cell
  have f4 := k5.frozen
  have c5 := k6.cell
  have f5 := k6.frozen
  have HR3 := Aside0.mk k2
  clear k2
  gi_wp2
  rw [backs_snd] at k3
  have hg := HG.out
  rw [k3] at hg
  obtain ⟨rfl, rfl⟩ : lc = r1 ∧ true = r2 := by simpa using hg
  have hDl : D < W.heap.size := (Array.getElem?_eq_some_iff.1 hK).1
  have hK3 : ((W.setCell ⟨w.heap.size, 0, none⟩ (.slice A3 lc.length c3)).setCell ⟨w.heap.size + 1, 0, none⟩ (.bool true)).heap[D]? = some (.deferred (some [])) := (KeepsOthers.setCell _ _ _).same D _ ((KeepsOthers.setCell _ _ _).same D _ hK rfl) rfl
  have b4 := (k5.set (.slice A3 lc.length c3)).other (B' := w.heap.size + 1) (by omega) (.bool true)
  have b5 := ((k6.other (B' := w.heap.size) (by omega) (.slice A3 lc.length c3))).set (.bool true)
  have hRW := Kd.R_set (Kd.R_set HR3.out k5 (by decide) 0 (.slice A3 lc.length c3)) (k6.other (B' := w.heap.size) (by omega) (.slice A3 lc.length c3)) (by decide) 0 (.bool true)
  have hBW : Below w.heap.size w ((W.setCell ⟨w.heap.size, 0, none⟩ (.slice A3 lc.length c3)).setCell ⟨w.heap.size + 1, 0, none⟩ (.bool true)) := (k7.setCell (p := ⟨w.heap.size, 0, none⟩) (by simp) _).setCell (p := ⟨w.heap.size + 1, 0, none⟩) (by simp) _
  clear HR3 k7 k5 k6 c4 c5 f4 f5
  obtain ⟨W4, hW4⟩ : ∃ W4, (W.setCell ⟨w.heap.size, 0, none⟩ (.slice A3 lc.length c3)).setCell ⟨w.heap.size + 1, 0, none⟩ (.bool true) = W4 := ⟨_, rfl⟩
  rw [hW4] at b4 b5 hRW hBW hK3 ⊢
  refine ⟨by simp, .inl ⟨_, _, rfl, run_takeDeferred hK3, ?_⟩⟩
  have b4' := own1 (row := some D) b4 (grownBy_putObj' _ D (.deferred none)) (fun r e => by cases e; exact ⟨hD, _, hK3, rfl⟩)
  have b5' := own1 (row := some D) b5 (grownBy_putObj' _ D (.deferred none)) (fun r e => by cases e; exact ⟨hD, _, hK3, rfl⟩)
  refine ⟨_, results_cells2 rfl _ _ ⟨w.heap.size, 0, none⟩ ⟨w.heap.size + 1, 0, none⟩ _ _ rfl rfl b4'.cell b5'.cell Try.isAgg22 Try.isAgg4, _, rfl, ?_, ?_⟩
  ·exact R_ownFrom W2.heap.size () W4 _ (some D) hRW (grownBy_putObj' _ D (.deferred none)) (fun r e => by cases e; exact ⟨hD, _, hK3, rfl⟩)
  ·exact hBW.trans (belowK_b (w := w) (Nat.le_refl _) W4 D _ _ (by omega) hK3 rfl rfl)
 case stop =>
  rintro D c pre W hD hSp ⟨rfl, k1, ⟨k2, k3⟩, k4⟩ hK
  gi_wp2
  have hg := HG.out
  obtain ⟨rest, hrest⟩ := hSp
  have hrev : l1.reverse = pre.map Prod.snd ++ rest.map Prod.snd := by rw [← backs_snd, ← hrest, List.map_append]
  rw [hrev, impl_start.go_none k1] at hg
  obtain ⟨rfl, rfl⟩ : ([] : List Int) = r1 ∧ false = r2 := by simpa using hg
  refine ⟨by simp, .inl ⟨_, _, rfl, run_takeDeferred hK, ?_⟩⟩
  have b4' := own1 (row := some D) k2 (grownBy_putObj' _ D (.deferred none)) (fun r e => by cases e; exact ⟨hD, _, hK, rfl⟩)
  have b5' := own1 (row := some D) k3 (grownBy_putObj' _ D (.deferred none)) (fun r e => by cases e; exact ⟨hD, _, hK, rfl⟩)
  refine ⟨_, results_cells2 rfl _ _ ⟨w.heap.size, 0, none⟩ ⟨w.heap.size + 1, 0, none⟩ _ _ rfl rfl b4'.cell b5'.cell Try.isAgg22 Try.isAgg4, _, rfl, Kd.R_nil _ _ _ _ _, ?_⟩
  exact k4.trans (belowK_b (w := w) (Nat.le_refl _) W D _ _ (by omega) hK rfl rfl)

end Go.Proofs.Ytccnpnlmihcmlaa.GLDistanceLeft
