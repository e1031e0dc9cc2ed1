-- Written by a program of this session (gprint.py), over the kit's print: not trusted: Lean checks it.
import Derived.Test.YtdbepjnapjjlcaaGLMostFlow0
import Derived.Test.YtdbepjnapjjlcaaGLMostFlow5
namespace Go.Proofs.Ytdbepjnapjjlcaa.GLMostFlow
open Go.RowKit Go.Proofs.YtdbepjnapjjlcaaW.PrintWords Go.Proofs.YtdbepjnapjjlcaaW.PrintLast Go.Proofs.YtdbepjnapjjlcaaW.PrintMore Go.Proofs.YtdbepjnapjjlcaaW.PrintOwn
attribute [local go_sem] max2_int min2_int max_two min_two max_three min_three max_four min_four   -- for this text's walks alone
set_option linter.unusedVariables false
set_option linter.unusedSimpArgs false

/-! ### impl_pushed: function 52 -/
/-- A store into a row of rows of the call's own: what lies there, and the rows behind it. -/
theorem impl_pushed.put {W : World} {base n cap : Nat} {ok : Nat → Prop} {ad : Addr} {xs : List (List Int)} (HS : Kd.S (Kd.slice 3 (Kd.int .i64)) 31 W base ok (.slice (some ad) n cap) xs) (i j : Int) (hi0 : 0 ≤ i) (hi1 : i < (xs.length : Int)) (hj0 : 0 ≤ j) (hj1 : j < ((rd_L1 xs i).length : Int)) :
    ∃ g ci, W.cell? (ad.add i.toNat) = some (.slice (some ⟨g, 0, none⟩) (rd_L1 xs i).length ci) ∧ W.cell? ⟨g, j.toNat, none⟩ = some (.int .i64 (rd (rd_L1 xs i) j)) ∧ W.frozen? ⟨g, j.toNat, none⟩ = false ∧ (ok g ∧ base ≤ g) ∧ ∀ v, Kd.S (Kd.slice 3 (Kd.int .i64)) 31 (W.setCell ⟨g, j.toNat, none⟩ (.int .i64 v)) base ok (.slice (some ad) n cap) (xs.set i.toNat ((rd_L1 xs i).set j.toNat v)) := by
  obtain ⟨hn, _, _⟩ := Kd.S_reads' HS
  obtain ⟨oki, c, hcl, hM, hcc, hoki, hback⟩ := Kd.S_borrow HS [] i hi0 (by omega)
  obtain ⟨v0, rfl, hR⟩ := hM
  have hR' : Kd.R (Kd.int .i64) 3 W base oki v0 (rd_L1 xs i) := hR
  have hx := hcc 0 v0 rfl
  rw [Nat.add_zero, show ((Kd.slice 3 (Kd.int .i64))).sz = 1 from rfl, Nat.mul_one] at hx
  obtain ⟨g, ci, rfl, hb, hl, hG⟩ := Kd.R_form hR' (by omega)
  obtain ⟨h1, h2⟩ := Kd.R_celln 0 hR' j hj0 hj1
  have hg : oki g := hR'.1 g (by simp [Value.ownBlock])
  refine ⟨g, ci, hx, h1, h2, ⟨(hoki g hg).1, hb⟩, fun v => ?_⟩
  have hp := Kd.R_putg hR' j v
  exact hback hp.2 (fun k hk => by injection hk with hk; rw [← hk]; exact hg) ⟨_, rfl, hp.1⟩
mutual
def impl_pushed.l0 : Nat → List (List Int) → List (List Int) → List Int → List (List Int) → Int → List (List Int) → Int → Int → Option ((List (List Int)) × Int)
  | 0, _, _, _, _, _, _, _, _ => none
  | k + 1, x0, x1, x2, x8, x9, x18, x19, x20 => if x20 < x19 then (if 0 ≤ x20 then (if x20 < (x18.length : Int) then ((slices_Clone_int_int.f (rd_L1 x18 x20)).bind fun t182 => (if x8.length < 5864062014805 then (impl_pushed.l0 k x0 x1 x2 (x8 ++ [t182]) x9 x18 x19 (wrap64 (x20 + 1))) else (none))) else (none)) else (none)) else (impl_pushed.l1 k x0 x1 x2 x8 x9 1)
def impl_pushed.l1 : Nat → List (List Int) → List (List Int) → List Int → List (List Int) → Int → Int → Option ((List (List Int)) × Int)
  | 0, _, _, _, _, _, _ => none
  | k + 1, x0, x1, x2, x8, x9, x12 => if x12 < (x2.length : Int) then (if 0 ≤ (wrap64 (x12 - 1)) then (if (wrap64 (x12 - 1)) < (x2.length : Int) then (if 0 ≤ x12 then ((impl_room.f x0 x1 (rd x2 (wrap64 (x12 - 1))) (rd x2 x12)).bind fun t190 => (impl_pushed.l1 k x0 x1 x2 x8 (mn x9 t190) (wrap64 (x12 + 1)))) else (none)) else (none)) else (none)) else (impl_pushed.l2 k x2 x8 x9 1)
def impl_pushed.l2 : Nat → List Int → List (List Int) → Int → Int → Option ((List (List Int)) × Int)
  | 0, _, _, _, _ => none
  | k + 1, x2, x8, x9, x13 => if x13 < (x2.length : Int) then (if 0 ≤ (wrap64 (x13 - 1)) then (if (wrap64 (x13 - 1)) < (x2.length : Int) then (if 0 ≤ x13 then (if 0 ≤ (rd x2 x13) then (if (rd x2 x13) < (x8.length : Int) then (if 0 ≤ (rd x2 (wrap64 (x13 - 1))) then (if (rd x2 (wrap64 (x13 - 1))) < ((rd_L1 x8 (rd x2 x13)).length : Int) then ((some (x8.set ((rd x2 x13) : Int).toNat ((rd_L1 x8 (rd x2 x13)).set ((rd x2 (wrap64 (x13 - 1))) : Int).toNat (wrap64 ((rd (rd_L1 x8 (rd x2 x13)) (rd x2 (wrap64 (x13 - 1)))) - (mn x9 (rd (rd_L1 x8 (rd x2 x13)) (rd x2 (wrap64 (x13 - 1)))))))) : List (List Int))).bind fun y199 => (if (rd x2 (wrap64 (x13 - 1))) < (x8.length : Int) then (if (rd x2 x13) < ((rd_L1 y199 (rd x2 (wrap64 (x13 - 1)))).length : Int) then (impl_pushed.l2 k x2 (y199.set ((rd x2 (wrap64 (x13 - 1))) : Int).toNat ((rd_L1 y199 (rd x2 (wrap64 (x13 - 1)))).set ((rd x2 x13) : Int).toNat (wrap64 ((rd (rd_L1 y199 (rd x2 (wrap64 (x13 - 1)))) (rd x2 x13)) + (wrap64 (x9 - (mn x9 (rd (rd_L1 x8 (rd x2 x13)) (rd x2 (wrap64 (x13 - 1))))))))))) x9 (wrap64 (x13 + 1))) else (none)) else (none))) else (none)) else (none)) else (none)) else (none)) else (none)) else (none)) else (none)) else (some (x8, x9))
end
def impl_pushed.f (k : Nat) (l0 : List (List Int)) (l1 : List (List Int)) (l2 : List Int) : Option ((List (List Int)) × Int) := impl_pushed.l0 k l0 l1 l2 (([] : List (List Int))) 2500 l1 (l1.length : Int) 0
theorem impl_pushed.mono_l : ∀ k, (∀ y0 y1 y2 y3 y4 y5 y6 y7, LeO (impl_pushed.l0 k y0 y1 y2 y3 y4 y5 y6 y7) (impl_pushed.l0 (k + 1) y0 y1 y2 y3 y4 y5 y6 y7)) ∧ (∀ y0 y1 y2 y3 y4 y5, LeO (impl_pushed.l1 k y0 y1 y2 y3 y4 y5) (impl_pushed.l1 (k + 1) y0 y1 y2 y3 y4 y5)) ∧ (∀ y0 y1 y2 y3, LeO (impl_pushed.l2 k y0 y1 y2 y3) (impl_pushed.l2 (k + 1) y0 y1 y2 y3))
  | 0 => ⟨fun _ _ _ _ _ _ _ _ r h => by simp [impl_pushed.l0] at h, fun _ _ _ _ _ _ r h => by simp [impl_pushed.l1] at h, fun _ _ _ _ r h => by simp [impl_pushed.l2] at h⟩
  | k + 1 => by
    obtain ⟨ih0, ih1, ih2⟩ := impl_pushed.mono_l k
    refine ⟨?_, ?_, ?_⟩
    · intro y0 y1 y2 y3 y4 y5 y6 y7
      unfold impl_pushed.l0
      repeat' first
      | (with_reducible exact ih0 _ _ _ _ _ _ _ _)
      | (with_reducible exact ih1 _ _ _ _ _ _)
      | (with_reducible exact ih2 _ _ _ _)
      | (with_reducible exact LeO.refl _)
      | (with_reducible exact LeO.none _)
      | (with_reducible refine LeO.ite ?_ ?_)
      | (with_reducible refine LeO.bind ?_ (fun _ => ?_))
      | exact ih0 _ _ _ _ _ _ _ _
      | exact ih1 _ _ _ _ _ _
      | exact ih2 _ _ _ _
      | exact LeO.none _
      | refine LeO.ite ?_ ?_
      | refine LeO.bind ?_ (fun _ => ?_)
    · intro y0 y1 y2 y3 y4 y5
      unfold impl_pushed.l1
      repeat' first
      | (with_reducible exact ih0 _ _ _ _ _ _ _ _)
      | (with_reducible exact ih1 _ _ _ _ _ _)
      | (with_reducible exact ih2 _ _ _ _)
      | (with_reducible exact LeO.refl _)
      | (with_reducible exact LeO.none _)
      | (with_reducible refine LeO.ite ?_ ?_)
      | (with_reducible refine LeO.bind ?_ (fun _ => ?_))
      | exact ih0 _ _ _ _ _ _ _ _
      | exact ih1 _ _ _ _ _ _
      | exact ih2 _ _ _ _
      | exact LeO.none _
      | refine LeO.ite ?_ ?_
      | refine LeO.bind ?_ (fun _ => ?_)
    · intro y0 y1 y2 y3
      unfold impl_pushed.l2
      repeat' first
      | (with_reducible exact ih0 _ _ _ _ _ _ _ _)
      | (with_reducible exact ih1 _ _ _ _ _ _)
      | (with_reducible exact ih2 _ _ _ _)
      | (with_reducible exact LeO.refl _)
      | (with_reducible exact LeO.none _)
      | (with_reducible refine LeO.ite ?_ ?_)
      | (with_reducible refine LeO.bind ?_ (fun _ => ?_))
      | exact ih0 _ _ _ _ _ _ _ _
      | exact ih1 _ _ _ _ _ _
      | exact ih2 _ _ _ _
      | exact LeO.none _
      | refine LeO.ite ?_ ?_
      | refine LeO.bind ?_ (fun _ => ?_)
theorem impl_pushed.mono : ∀ a0 a1 a2 k, LeO (impl_pushed.f k a0 a1 a2) (impl_pushed.f (k + 1) a0 a1 a2) := by
  intro a0 a1 a2 k
  obtain ⟨ih0, ih1, ih2⟩ := impl_pushed.mono_l k
  unfold impl_pushed.f
  repeat' first
      | (with_reducible exact ih0 _ _ _ _ _ _ _ _)
      | (with_reducible exact ih1 _ _ _ _ _ _)
      | (with_reducible exact ih2 _ _ _ _)
      | (with_reducible exact LeO.refl _)
      | (with_reducible exact LeO.none _)
      | (with_reducible refine LeO.ite ?_ ?_)
      | (with_reducible refine LeO.bind ?_ (fun _ => ?_))
      | exact ih0 _ _ _ _ _ _ _ _
      | exact ih1 _ _ _ _ _ _
      | exact ih2 _ _ _ _
      | exact LeO.none _
      | refine LeO.ite ?_ ?_
      | refine LeO.bind ?_ (fun _ => ?_)
set_option maxHeartbeats 8000000 in
set_option maxRecDepth 100000 in
theorem impl_pushed.calls (k : Nat) (A0 : Option Addr) (c0 : Nat) (l0 : List (List Int)) (A1 : Option Addr) (c1 : Nat) (l1 : List (List Int)) (A2 : Option Addr) (c2 : Nat) (l2 : List Int) (r1 : List (List Int)) (r2 : Int) (w : World) (hr0 : Kd.C (Kd.slice 3 (Kd.int .i64)) w A0 l0.length l0) (hc0 : l0.length ≤ c0) (hr1 : Kd.C (Kd.slice 3 (Kd.int .i64)) w A1 l1.length l1) (hc1 : l1.length ≤ c1) (hr2 : Kd.C (Kd.int .i64) w A2 l2.length l2) (hc2 : l2.length ≤ c2) (h : impl_pushed.f k l0 l1 l2 = some (r1, r2)) :
    Calls Try.prog 52 #[.slice A0 l0.length c0, .slice A1 l1.length c1, .slice A2 l2.length c2] w fun e w' => ∃ v0_ : Value, e = .returned (.tuple #[v0_, .int .i64 r2]) ∧ Kd.S (Kd.slice 3 (Kd.int .i64)) 31 w' w.heap.size (fun _ => True) v0_ r1 ∧ Below w.heap.size w w' := by
  have HR0 := Aside0.mk hr0
  have HC0 := Aside0.mk hc0
  clear hr0 hc0
  have HR1 := Aside0.mk hr1
  have HC1 := Aside0.mk hc1
  clear hr1 hc1
  have HR2 := Aside0.mk hr2
  have HC2 := Aside0.mk hc2
  clear hr2 hc2
  have HB := Aside0.mk (Below.refl w.heap.size w)
  have H : (impl_pushed.l0 k l0 l1 l2 (([] : List (List Int))) 2500 l1 (l1.length : Int) 0) = some (r1, r2) := h
  clear h
  obtain ⟨y178, hy178⟩ : ∃ y_ : List (List Int), y_ = (([] : List (List Int))) := ⟨_, rfl⟩
  replace H : (impl_pushed.l0 k l0 l1 l2 y178 2500 l1 (l1.length : Int) 0) = some (r1, r2) := by first | (rw [hy178]; with_reducible exact H) | (have H2_ := (Option.bind_some _ _).symm.trans H; rw [hy178]; with_reducible exact H2_) | (have H2_ := (Option.bind_some _ _).symm.trans H; with_reducible exact H2_) | with_reducible exact H | (rw [hy178]; exact H) | exact H
  have Ny178 := Aside0.mk hy178
  clear hy178
  have H' := Aside0.mk H
  clear H
  go_enter Try.func52, Try.ntmps52
  go_wp2_with (first | ((with_reducible refine gate_dst (N := 17) rfl ?_); refine Kd.S_lit (Kd.slice 3 (Kd.int .i64)) _ 31 ?hg (N := 17) ?hd (xs := ([] : List (List Int))) (inner := []) (ok := fun _ => True) (okp := fun _ => True) ?hr ?hp (fun _ hk => hk) trivial (Below.refl _ _) (Nat.le_refl _) (by simp) ?_; (case hd => rfl); (case hg => rfl); (case hr => first | (go_simp; done) | (go_simp; rfl)); (case hp => exact (Reps.none _ _)); intro v179 w4 ho5 hb hg_ hnew_; clear hg_ hnew_; (first | rw [← Ny178.out] at ho5 | (simp only [Int.reduceToNat] at ho5; rw [← Ny178.out] at ho5)); have n0_ := Aside0.mk (Kd.S_lower ho5 (below_size (by repeat (first | (with_reducible first | exact HB.out | apply below_alloc | apply pw_below_drewN | apply below_drew1) | exact HB.out)))); have n1_ := Aside0.mk (below_step (by repeat (first | (with_reducible first | exact HB.out | apply below_alloc | apply pw_below_drewN | apply below_drew1) | exact HB.out)) hb); clear HB; have HO180 := n0_; have HB := n1_; clear n0_ n1_; clear hb ho5))
  repeat (go_quiet (first | ((with_reducible refine gate_dst (N := 17) rfl ?_); refine Kd.S_lit (Kd.slice 3 (Kd.int .i64)) _ 31 ?hg (N := 17) ?hd (xs := ([] : List (List Int))) (inner := []) (ok := fun _ => True) (okp := fun _ => True) ?hr ?hp (fun _ hk => hk) trivial (Below.refl _ _) (Nat.le_refl _) (by simp) ?_; (case hd => rfl); (case hg => rfl); (case hr => first | (go_simp; done) | (go_simp; rfl)); (case hp => exact (Reps.none _ _)); intro v179 w4 ho5 hb hg_ hnew_; clear hg_ hnew_; (first | rw [← Ny178.out] at ho5 | (simp only [Int.reduceToNat] at ho5; rw [← Ny178.out] at ho5)); have n0_ := Aside0.mk (Kd.S_lower ho5 (below_size (by repeat (first | (with_reducible first | exact HB.out | apply below_alloc | apply pw_below_drewN | apply below_drew1) | exact HB.out)))); have n1_ := Aside0.mk (below_step (by repeat (first | (with_reducible first | exact HB.out | apply below_alloc | apply pw_below_drewN | apply below_drew1) | exact HB.out)) hb); clear HB; have HO180 := n0_; have HB := n1_; clear n0_ n1_; clear hb ho5)); try go_wp2_with (first | ((with_reducible refine gate_dst (N := 17) rfl ?_); refine Kd.S_lit (Kd.slice 3 (Kd.int .i64)) _ 31 ?hg (N := 17) ?hd (xs := ([] : List (List Int))) (inner := []) (ok := fun _ => True) (okp := fun _ => True) ?hr ?hp (fun _ hk => hk) trivial (Below.refl _ _) (Nat.le_refl _) (by simp) ?_; (case hd => rfl); (case hg => rfl); (case hr => first | (go_simp; done) | (go_simp; rfl)); (case hp => exact (Reps.none _ _)); intro v179 w4 ho5 hb hg_ hnew_; clear hg_ hnew_; (first | rw [← Ny178.out] at ho5 | (simp only [Int.reduceToNat] at ho5; rw [← Ny178.out] at ho5)); have n0_ := Aside0.mk (Kd.S_lower ho5 (below_size (by repeat (first | (with_reducible first | exact HB.out | apply below_alloc | apply pw_below_drewN | apply below_drew1) | exact HB.out)))); have n1_ := Aside0.mk (below_step (by repeat (first | (with_reducible first | exact HB.out | apply below_alloc | apply pw_below_drewN | apply below_drew1) | exact HB.out)) hb); clear HB; have HO180 := n0_; have HB := n1_; clear n0_ n1_; clear hb ho5)))
  go_loopg [8, 20] k (fun kq v8 v20 w' => ∃ (x8_1 : List (List Int)) (x20_1 : Int), v20 = .int .i64 x20_1 ∧ Aside0 (impl_pushed.l0 kq l0 l1 l2 x8_1 2500 l1 (l1.length : Int) x20_1 = some (r1, r2)) ∧ Aside0 (kq ≤ k) ∧ Aside0 (Kd.S (Kd.slice 3 (Kd.int .i64)) 31 w' w.heap.size (fun _ => True) v8 x8_1) ∧ Aside0 (Below w.heap.size w w'))
  case atStart => exact ⟨(y178), (0), (by first | rfl | (simp; done) | (simp [*]; done)), H', ⟨Nat.le_refl _⟩, ⟨by (with_reducible repeat (first | apply Kd.S_alloc | apply Kd.S_drewN | apply Kd.S_drew)); exact HO180.out⟩, ⟨by repeat (first | (with_reducible first | exact HB.out | apply below_alloc | apply pw_below_drewN | apply below_drew1) | exact HB.out)⟩⟩
  case round =>
    clear H'
    try clear c1
    try clear c2
    try clear p2
    try clear c5
    obtain ⟨x8_1, x20_1, rfl, HA, HK1, HO_8, HB⟩ := hrel
    cases gk with
    | zero => exact absurd HA.out (by simp [impl_pushed.l0])
    | succ k1 =>
      have H := HA.out
      clear HA
      simp only [impl_pushed.l0] at H
      by_cases c6 : x20_1 < (l1.length : Int)
      · rw [if_pos c6] at H
        have c6b0 : decide (x20_1 < (l1.length : Int)) = true := decide_eq_true c6
        clear c6
        by_cases c7 : 0 ≤ x20_1
        · rw [if_pos c7] at H
          have c7b0 : decide (0 ≤ x20_1) = true := decide_eq_true c7
          clear c7
          by_cases c8 : x20_1 < (l1.length : Int)
          · rw [if_pos c8] at H
            have c8b0 : decide (x20_1 < (l1.length : Int)) = true := decide_eq_true c8
            clear c8
            replace H := Option.bind_eq_some_iff.mp H
            obtain ⟨t182, A90, H⟩ := H
            replace H : (if x8_1.length < 5864062014805 then (impl_pushed.l0 k1 l0 l1 l2 (x8_1 ++ [t182]) 2500 l1 (l1.length : Int) (wrap64 (x20_1 + 1))) else (none)) = some (r1, r2) := H
            have A9 := Aside0.mk A90
            clear A90
            by_cases c10 : x8_1.length < 5864062014805
            · rw [if_pos c10] at H
              have LMc10 := Aside0.mk c10
              clear c10
              obtain ⟨y185, hy185⟩ : ∃ y_ : List (List Int), y_ = (x8_1 ++ [t182]) := ⟨_, rfl⟩
              replace H : (impl_pushed.l0 k1 l0 l1 l2 y185 2500 l1 (l1.length : Int) (wrap64 (x20_1 + 1))) = some (r1, r2) := by first | (rw [hy185]; with_reducible exact H) | (have H2_ := (Option.bind_some _ _).symm.trans H; rw [hy185]; with_reducible exact H2_) | (have H2_ := (Option.bind_some _ _).symm.trans H; with_reducible exact H2_) | with_reducible exact H | (rw [hy185]; exact H) | exact H
              have Ny185 := Aside0.mk hy185
              clear hy185
              have H' := Aside0.mk H
              clear H
              have p181 : 0 ≤ (x20_1 : Int) := of_decide_eq_true (by first | (with_reducible assumption) | assumption)
              have q181 : x20_1 < (l1.length : Int) := of_decide_eq_true (by first | (with_reducible assumption) | assumption)
              obtain ⟨ad181, A181_0, c181_0, e181, hx181_0, hl181_0, hi181_0⟩ := at_L1 HR1.out x20_1 p181 q181
              cases e181
              replace hx181_0 := (HB.out.cell (World.block_lt_of_cell? w _ hx181_0)).trans hx181_0
              have HR181_0 := Aside0.mk hi181_0
              have HC181_0 := Aside0.mk hl181_0
              clear hi181_0 hl181_0
              replace p181 := eq_true p181
              replace q181 := eq_true q181
              go_wp2_with (first | (go_at_call 68; (with_reducible refine (slices_Clone_int_int.calls _ _ (rd_L1 l1 x20_1) t182 _ ?side1 ?side2 A9.out).mono ?_); (case side1 => repeat (first | exact (Kd.C_below HR181_0.out HB.out) | (with_reducible refine Kd.C_alloc ?_ _) | (with_reducible refine Kd.C_drewN ?_ _) | (with_reducible refine Kd.C_drew ?_))); (case side2 => exact HC181_0.out); rintro e w11 ⟨v183, rfl, ho0, hb⟩; have n0_ := Aside0.mk (Kd.S_elder' (by (with_reducible repeat (first | apply Kd.S_alloc | apply Kd.S_drewN | apply Kd.S_drew)); exact HO_8.out) (Kd.R_base ho0) hb); have n1_ := Aside0.mk (Kd.R_lower ho0 (below_size (by repeat (first | (with_reducible first | exact HB.out | apply below_alloc | apply pw_below_drewN | apply below_drew1) | exact HB.out)))); have n2_ := Aside0.mk (below_step (by repeat (first | (with_reducible first | exact HB.out | apply below_alloc | apply pw_below_drewN | apply below_drew1) | exact HB.out)) hb); clear HO_8; clear HB; have HO_8 := n0_; have HO184 := n1_; have HB := n2_; clear n0_ n1_ n2_; (try clear hb); (try clear hb2); (try clear hk); (try clear hi); (try clear ho0); obtain ⟨Ao13, co13, eo13⟩ := Kd.R_slice HO184.out; subst eo13) | ((with_reducible refine gate_builtin (b := .append) (xs := #[.tmp 24, .tmp 27]) rfl ?_); at_builtin; refine Kd.S_append (Kd.slice 3 (Kd.int .i64)) (w0 := w) w.heap.size rfl (.tmp 24) (.tmp 27) 22 31 (.slice none 0 0) 24 rfl Try.underlying22 info31 rfl (by decide) (by omega) u8 x8_1 t182 [.slice Ao13 t182.length co13] (fun _ => True) (fun k_ => some k_ = (.slice Ao13 t182.length co13 : Value).ownBlock) rfl rfl ?aP (fun k_ hk_ => ((Kd.R_mono (ok' := fun k_ => ((fun _ => True)) k_ ∧ some k_ ≠ (u8 : Value).ownBlock) (Kd.R_apart' (HO184.out) (Kd.S_typed HO_8.out) (by decide)) (fun k_ hk => ⟨trivial, hk.2⟩))).1 k_ hk_.symm) ?aF ?aO ?aB ?aS ?aL ?_; (case aP => exact Kd.M_row (Kd.R_mono (Kd.R_tight rfl (Kd.R_mono (ok' := fun k_ => ((fun _ => True)) k_ ∧ some k_ ≠ (u8 : Value).ownBlock) (Kd.R_apart' (HO184.out) (Kd.S_typed HO_8.out) (by decide)) (fun k_ hk => ⟨trivial, hk.2⟩))) (fun _ h_ => h_))); (case aB => exact (by repeat (first | (with_reducible first | exact HB.out | apply below_alloc | apply pw_below_drewN | apply below_drew1) | exact HB.out))); (case aF => exact (fun _ _ => trivial)); (case aO => exact (by (with_reducible repeat (first | apply Kd.S_alloc | apply Kd.S_drewN | apply Kd.S_drew)); exact Kd.S_mono HO_8.out (fun k_ hk => ⟨trivial, fun e_ => hk.2 e_⟩))); (case aS => exact (below_size (by repeat (first | (with_reducible first | exact HB.out | apply below_alloc | apply pw_below_drewN | apply below_drew1) | exact HB.out)))); (case aL => have := LMc10.out; omega); intro v186 w12 ho hb hg hat; rw [← Ny185.out] at ho; have n0_ := Aside0.mk (hb); have n1_ := Aside0.mk (ho); clear HB; clear HO_8; clear HO184; have HB := n0_; have HO187 := n1_; clear n0_ n1_; clear ho hb hg hat))
              repeat (go_quiet (first | (go_at_call 68; (with_reducible refine (slices_Clone_int_int.calls _ _ (rd_L1 l1 x20_1) t182 _ ?side1 ?side2 A9.out).mono ?_); (case side1 => repeat (first | exact (Kd.C_below HR181_0.out HB.out) | (with_reducible refine Kd.C_alloc ?_ _) | (with_reducible refine Kd.C_drewN ?_ _) | (with_reducible refine Kd.C_drew ?_))); (case side2 => exact HC181_0.out); rintro e w11 ⟨v183, rfl, ho0, hb⟩; have n0_ := Aside0.mk (Kd.S_elder' (by (with_reducible repeat (first | apply Kd.S_alloc | apply Kd.S_drewN | apply Kd.S_drew)); exact HO_8.out) (Kd.R_base ho0) hb); have n1_ := Aside0.mk (Kd.R_lower ho0 (below_size (by repeat (first | (with_reducible first | exact HB.out | apply below_alloc | apply pw_below_drewN | apply below_drew1) | exact HB.out)))); have n2_ := Aside0.mk (below_step (by repeat (first | (with_reducible first | exact HB.out | apply below_alloc | apply pw_below_drewN | apply below_drew1) | exact HB.out)) hb); clear HO_8; clear HB; have HO_8 := n0_; have HO184 := n1_; have HB := n2_; clear n0_ n1_ n2_; (try clear hb); (try clear hb2); (try clear hk); (try clear hi); (try clear ho0); obtain ⟨Ao13, co13, eo13⟩ := Kd.R_slice HO184.out; subst eo13) | ((with_reducible refine gate_builtin (b := .append) (xs := #[.tmp 24, .tmp 27]) rfl ?_); at_builtin; refine Kd.S_append (Kd.slice 3 (Kd.int .i64)) (w0 := w) w.heap.size rfl (.tmp 24) (.tmp 27) 22 31 (.slice none 0 0) 24 rfl Try.underlying22 info31 rfl (by decide) (by omega) u8 x8_1 t182 [.slice Ao13 t182.length co13] (fun _ => True) (fun k_ => some k_ = (.slice Ao13 t182.length co13 : Value).ownBlock) rfl rfl ?aP (fun k_ hk_ => ((Kd.R_mono (ok' := fun k_ => ((fun _ => True)) k_ ∧ some k_ ≠ (u8 : Value).ownBlock) (Kd.R_apart' (HO184.out) (Kd.S_typed HO_8.out) (by decide)) (fun k_ hk => ⟨trivial, hk.2⟩))).1 k_ hk_.symm) ?aF ?aO ?aB ?aS ?aL ?_; (case aP => exact Kd.M_row (Kd.R_mono (Kd.R_tight rfl (Kd.R_mono (ok' := fun k_ => ((fun _ => True)) k_ ∧ some k_ ≠ (u8 : Value).ownBlock) (Kd.R_apart' (HO184.out) (Kd.S_typed HO_8.out) (by decide)) (fun k_ hk => ⟨trivial, hk.2⟩))) (fun _ h_ => h_))); (case aB => exact (by repeat (first | (with_reducible first | exact HB.out | apply below_alloc | apply pw_below_drewN | apply below_drew1) | exact HB.out))); (case aF => exact (fun _ _ => trivial)); (case aO => exact (by (with_reducible repeat (first | apply Kd.S_alloc | apply Kd.S_drewN | apply Kd.S_drew)); exact Kd.S_mono HO_8.out (fun k_ hk => ⟨trivial, fun e_ => hk.2 e_⟩))); (case aS => exact (below_size (by repeat (first | (with_reducible first | exact HB.out | apply below_alloc | apply pw_below_drewN | apply below_drew1) | exact HB.out)))); (case aL => have := LMc10.out; omega); intro v186 w12 ho hb hg hat; rw [← Ny185.out] at ho; have n0_ := Aside0.mk (hb); have n1_ := Aside0.mk (ho); clear HB; clear HO_8; clear HO184; have HB := n0_; have HO187 := n1_; clear n0_ n1_; clear ho hb hg hat)); try go_wp2_with (first | (go_at_call 68; (with_reducible refine (slices_Clone_int_int.calls _ _ (rd_L1 l1 x20_1) t182 _ ?side1 ?side2 A9.out).mono ?_); (case side1 => repeat (first | exact (Kd.C_below HR181_0.out HB.out) | (with_reducible refine Kd.C_alloc ?_ _) | (with_reducible refine Kd.C_drewN ?_ _) | (with_reducible refine Kd.C_drew ?_))); (case side2 => exact HC181_0.out); rintro e w11 ⟨v183, rfl, ho0, hb⟩; have n0_ := Aside0.mk (Kd.S_elder' (by (with_reducible repeat (first | apply Kd.S_alloc | apply Kd.S_drewN | apply Kd.S_drew)); exact HO_8.out) (Kd.R_base ho0) hb); have n1_ := Aside0.mk (Kd.R_lower ho0 (below_size (by repeat (first | (with_reducible first | exact HB.out | apply below_alloc | apply pw_below_drewN | apply below_drew1) | exact HB.out)))); have n2_ := Aside0.mk (below_step (by repeat (first | (with_reducible first | exact HB.out | apply below_alloc | apply pw_below_drewN | apply below_drew1) | exact HB.out)) hb); clear HO_8; clear HB; have HO_8 := n0_; have HO184 := n1_; have HB := n2_; clear n0_ n1_ n2_; (try clear hb); (try clear hb2); (try clear hk); (try clear hi); (try clear ho0); obtain ⟨Ao13, co13, eo13⟩ := Kd.R_slice HO184.out; subst eo13) | ((with_reducible refine gate_builtin (b := .append) (xs := #[.tmp 24, .tmp 27]) rfl ?_); at_builtin; refine Kd.S_append (Kd.slice 3 (Kd.int .i64)) (w0 := w) w.heap.size rfl (.tmp 24) (.tmp 27) 22 31 (.slice none 0 0) 24 rfl Try.underlying22 info31 rfl (by decide) (by omega) u8 x8_1 t182 [.slice Ao13 t182.length co13] (fun _ => True) (fun k_ => some k_ = (.slice Ao13 t182.length co13 : Value).ownBlock) rfl rfl ?aP (fun k_ hk_ => ((Kd.R_mono (ok' := fun k_ => ((fun _ => True)) k_ ∧ some k_ ≠ (u8 : Value).ownBlock) (Kd.R_apart' (HO184.out) (Kd.S_typed HO_8.out) (by decide)) (fun k_ hk => ⟨trivial, hk.2⟩))).1 k_ hk_.symm) ?aF ?aO ?aB ?aS ?aL ?_; (case aP => exact Kd.M_row (Kd.R_mono (Kd.R_tight rfl (Kd.R_mono (ok' := fun k_ => ((fun _ => True)) k_ ∧ some k_ ≠ (u8 : Value).ownBlock) (Kd.R_apart' (HO184.out) (Kd.S_typed HO_8.out) (by decide)) (fun k_ hk => ⟨trivial, hk.2⟩))) (fun _ h_ => h_))); (case aB => exact (by repeat (first | (with_reducible first | exact HB.out | apply below_alloc | apply pw_below_drewN | apply below_drew1) | exact HB.out))); (case aF => exact (fun _ _ => trivial)); (case aO => exact (by (with_reducible repeat (first | apply Kd.S_alloc | apply Kd.S_drewN | apply Kd.S_drew)); exact Kd.S_mono HO_8.out (fun k_ hk => ⟨trivial, fun e_ => hk.2 e_⟩))); (case aS => exact (below_size (by repeat (first | (with_reducible first | exact HB.out | apply below_alloc | apply pw_below_drewN | apply below_drew1) | exact HB.out)))); (case aL => have := LMc10.out; omega); intro v186 w12 ho hb hg hat; rw [← Ny185.out] at ho; have n0_ := Aside0.mk (hb); have n1_ := Aside0.mk (ho); clear HB; clear HO_8; clear HO184; have HB := n0_; have HO187 := n1_; clear n0_ n1_; clear ho hb hg hat)))
              go_roundg k1
              case measure => have := HK1.out; omega
              case rel => exact ⟨(y185), (wrap64 (x20_1 + 1)), (by first | rfl | (simp; done) | (simp [*]; done)), H', ⟨by have := HK1.out; omega⟩, ⟨by (with_reducible repeat (first | apply Kd.S_alloc | apply Kd.S_drewN | apply Kd.S_drew)); exact HO187.out⟩, ⟨by repeat (first | (with_reducible first | exact HB.out | apply below_alloc | apply pw_below_drewN | apply below_drew1) | exact HB.out)⟩⟩
            · rw [if_neg c10] at H
              exact absurd H (by simp)
          · rw [if_neg c8] at H
            exact absurd H (by simp)
        · rw [if_neg c7] at H
          exact absurd H (by simp)
      · rw [if_neg c6] at H
        have c6b0 : decide (x20_1 < (l1.length : Int)) = false := decide_eq_false c6
        clear c6
        have H' := Aside0.mk H
        clear H
        go_wp2
        repeat (go_quiet (fail); try go_wp2)
        go_loopg [9, 12] k1 (fun kq v9 v12 w' => ∃ (x9_2 : Int) (x12_2 : Int), v9 = .int .i64 x9_2 ∧ v12 = .int .i64 x12_2 ∧ Aside0 (impl_pushed.l1 kq l0 l1 l2 x8_1 x9_2 x12_2 = some (r1, r2)) ∧ Aside0 (kq ≤ k1) ∧ Aside0 (Kd.S (Kd.slice 3 (Kd.int .i64)) 31 w' w.heap.size (fun _ => True) u8 x8_1) ∧ Aside0 (Below w.heap.size w w'))
        case atStart => exact ⟨(2500), (1), (by first | rfl | (simp; done) | (simp [*]; done)), (by first | rfl | (simp; done) | (simp [*]; done)), H', ⟨Nat.le_refl _⟩, ⟨by (with_reducible repeat (first | apply Kd.S_alloc | apply Kd.S_drewN | apply Kd.S_drew)); exact HO_8.out⟩, ⟨by repeat (first | (with_reducible first | exact HB.out | apply below_alloc | apply pw_below_drewN | apply below_drew1) | exact HB.out)⟩⟩
        case round =>
          clear H'
          try clear c1
          try clear p1
          try clear q1
          try clear hx1
          try clear c2
          try clear p2
          try clear c5
          try clear c6
          try clear c6b0
          try clear p6
          try clear c7
          try clear c7b0
          try clear c8
          try clear c8b0
          try clear c10
          try clear hx181_0
          try clear p181
          try clear p2
          try clear q181
          obtain ⟨x9_2, x12_2, rfl, rfl, HA, HK2, HO_8, HB⟩ := hrel
          cases gk with
          | zero => exact absurd HA.out (by simp [impl_pushed.l1])
          | succ k2 =>
            have H := HA.out
            clear HA
            simp only [impl_pushed.l1] at H
            by_cases c14 : x12_2 < (l2.length : Int)
            · rw [if_pos c14] at H
              have c14b0 : decide (x12_2 < (l2.length : Int)) = true := decide_eq_true c14
              clear c14
              obtain ⟨ji15, hji15⟩ : ∃ j_ : Int, (wrap64 (x12_2 - 1)) = j_ := ⟨_, rfl⟩
              replace H : (if 0 ≤ (ji15) then (if (ji15) < (l2.length : Int) then (if 0 ≤ x12_2 then ((impl_room.f l0 l1 (rd l2 (ji15)) (rd l2 x12_2)).bind fun t190 => (impl_pushed.l1 k2 l0 l1 l2 x8_1 (mn x9_2 t190) (wrap64 (x12_2 + 1)))) else (none)) else (none)) else (none)) = some (r1, r2) := by first | (rw [hji15] at H; exact H) | (simp only [hji15] at H ⊢; exact H)
              have hji15w : (IntKind.i64.wrap (x12_2 - 1)) = ji15 := (i64_w _).trans hji15
              by_cases c16 : 0 ≤ (ji15)
              · rw [if_pos c16] at H
                have c16b0 : decide (0 ≤ (ji15)) = true := decide_eq_true c16
                clear c16
                by_cases c17 : (ji15) < (l2.length : Int)
                · rw [if_pos c17] at H
                  have c17b0 : decide ((ji15) < (l2.length : Int)) = true := decide_eq_true c17
                  clear c17
                  by_cases c18 : 0 ≤ x12_2
                  · rw [if_pos c18] at H
                    have c18b0 : decide (0 ≤ x12_2) = true := decide_eq_true c18
                    clear c18
                    replace H := Option.bind_eq_some_iff.mp H
                    obtain ⟨t190, A190, H⟩ := H
                    replace H : (impl_pushed.l1 k2 l0 l1 l2 x8_1 (mn x9_2 t190) (wrap64 (x12_2 + 1))) = some (r1, r2) := H
                    have A19 := Aside0.mk A190
                    clear A190
                    obtain ⟨ji20, hji20⟩ : ∃ j_ : Int, (mn x9_2 t190) = j_ := ⟨_, rfl⟩
                    replace H : (impl_pushed.l1 k2 l0 l1 l2 x8_1 ji20 (wrap64 (x12_2 + 1))) = some (r1, r2) := by first | (rw [hji20] at H; exact H) | (simp only [hji20] at H ⊢; exact H)
                    (try rw [hji20] at A19)
                    have hji20_ : (if t190 < x9_2 then t190 else x9_2) = ji20 := hji20
                    have H' := Aside0.mk H
                    clear H
                    have p188 : 0 ≤ ((ji15) : Int) := of_decide_eq_true (by first | (with_reducible assumption) | assumption)
                    have q188 : (ji15) < (l2.length : Int) := of_decide_eq_true (by first | (with_reducible assumption) | assumption)
                    obtain ⟨ad188, e188, hx188_0⟩ := Kd.at_int HR2.out (ji15) p188 q188
                    cases e188
                    replace hx188_0 := (HB.out.cell (World.block_lt_of_cell? w _ hx188_0)).trans hx188_0
                    replace p188 := eq_true p188
                    replace q188 := eq_true q188
                    have p189 : 0 ≤ (x12_2 : Int) := of_decide_eq_true (by first | (with_reducible assumption) | assumption)
                    have q189 : x12_2 < (l2.length : Int) := of_decide_eq_true (by first | (with_reducible assumption) | assumption)
                    obtain ⟨ad189, e189, hx189_0⟩ := Kd.at_int HR2.out x12_2 p189 q189
                    obtain rfl : ad188 = ad189 := (by injection e189)
                    replace hx189_0 := (HB.out.cell (World.block_lt_of_cell? w _ hx189_0)).trans hx189_0
                    replace p189 := eq_true p189
                    replace q189 := eq_true q189
                    go_wp2_with (first | (go_at_call 51; (with_reducible refine (impl_room.calls _ _ l0 _ _ l1 (rd l2 (ji15)) (rd l2 x12_2) t190 _ ?side1 ?side2 ?side3 ?side4 A19.out).mono ?_); (case side1 => repeat (first | exact (Kd.C_below HR0.out HB.out) | (with_reducible refine Kd.C_alloc ?_ _) | (with_reducible refine Kd.C_drewN ?_ _) | (with_reducible refine Kd.C_drew ?_))); (case side2 => exact HC0.out); (case side3 => repeat (first | exact (Kd.C_below HR1.out HB.out) | (with_reducible refine Kd.C_alloc ?_ _) | (with_reducible refine Kd.C_drewN ?_ _) | (with_reducible refine Kd.C_drew ?_))); (case side4 => exact HC1.out); rintro e w' ⟨rfl, ⟨nd, rfl⟩⟩; (try first | exact ⟨rfl, _, World.drewN_drewN _ _ _⟩ | exact ⟨rfl, _, Eq.trans (World.drewN_drewN _ _ _) (congrArg (World.drewN _) (Nat.add_assoc _ _ _))⟩)))
                    repeat (go_quiet (first | (go_at_call 51; (with_reducible refine (impl_room.calls _ _ l0 _ _ l1 (rd l2 (ji15)) (rd l2 x12_2) t190 _ ?side1 ?side2 ?side3 ?side4 A19.out).mono ?_); (case side1 => repeat (first | exact (Kd.C_below HR0.out HB.out) | (with_reducible refine Kd.C_alloc ?_ _) | (with_reducible refine Kd.C_drewN ?_ _) | (with_reducible refine Kd.C_drew ?_))); (case side2 => exact HC0.out); (case side3 => repeat (first | exact (Kd.C_below HR1.out HB.out) | (with_reducible refine Kd.C_alloc ?_ _) | (with_reducible refine Kd.C_drewN ?_ _) | (with_reducible refine Kd.C_drew ?_))); (case side4 => exact HC1.out); rintro e w' ⟨rfl, ⟨nd, rfl⟩⟩; (try first | exact ⟨rfl, _, World.drewN_drewN _ _ _⟩ | exact ⟨rfl, _, Eq.trans (World.drewN_drewN _ _ _) (congrArg (World.drewN _) (Nat.add_assoc _ _ _))⟩))); try go_wp2_with (first | (go_at_call 51; (with_reducible refine (impl_room.calls _ _ l0 _ _ l1 (rd l2 (ji15)) (rd l2 x12_2) t190 _ ?side1 ?side2 ?side3 ?side4 A19.out).mono ?_); (case side1 => repeat (first | exact (Kd.C_below HR0.out HB.out) | (with_reducible refine Kd.C_alloc ?_ _) | (with_reducible refine Kd.C_drewN ?_ _) | (with_reducible refine Kd.C_drew ?_))); (case side2 => exact HC0.out); (case side3 => repeat (first | exact (Kd.C_below HR1.out HB.out) | (with_reducible refine Kd.C_alloc ?_ _) | (with_reducible refine Kd.C_drewN ?_ _) | (with_reducible refine Kd.C_drew ?_))); (case side4 => exact HC1.out); rintro e w' ⟨rfl, ⟨nd, rfl⟩⟩; (try first | exact ⟨rfl, _, World.drewN_drewN _ _ _⟩ | exact ⟨rfl, _, Eq.trans (World.drewN_drewN _ _ _) (congrArg (World.drewN _) (Nat.add_assoc _ _ _))⟩))))
                    go_roundg k2
                    case measure => have := HK1.out; have := HK2.out; omega
                    case rel => exact ⟨(ji20), (wrap64 (x12_2 + 1)), (by first | rfl | (simp; done) | (simp only [← hji20] <;> (first | rfl | simp)) | (simp [*]; done)), (by first | rfl | (simp; done) | (simp [*]; done)), H', ⟨by have := HK1.out; have := HK2.out; omega⟩, ⟨by (with_reducible repeat (first | apply Kd.S_alloc | apply Kd.S_drewN | apply Kd.S_drew)); exact HO_8.out⟩, ⟨by repeat (first | (with_reducible first | exact HB.out | apply below_alloc | apply pw_below_drewN | apply below_drew1) | exact HB.out)⟩⟩
                  · rw [if_neg c18] at H
                    exact absurd H (by simp)
                · rw [if_neg c17] at H
                  exact absurd H (by simp)
              · rw [if_neg c16] at H
                exact absurd H (by simp)
            · rw [if_neg c14] at H
              have c14b0 : decide (x12_2 < (l2.length : Int)) = false := decide_eq_false c14
              clear c14
              have H' := Aside0.mk H
              clear H
              go_wp2
              repeat (go_quiet (fail); try go_wp2)
              go_loopg [13] k2 (fun kq v13 w' => ∃ (x8_3 : List (List Int)) (x13_3 : Int), v13 = .int .i64 x13_3 ∧ Aside0 (impl_pushed.l2 kq l2 x8_3 x9_2 x13_3 = some (r1, r2)) ∧ Aside0 (kq ≤ k2) ∧ Aside0 (Kd.S (Kd.slice 3 (Kd.int .i64)) 31 w' w.heap.size (fun _ => True) u8 x8_3) ∧ Aside0 (Below w.heap.size w w'))
              case atStart => exact ⟨(x8_1), (1), (by first | rfl | (simp; done) | (simp [*]; done)), H', ⟨Nat.le_refl _⟩, ⟨by (with_reducible repeat (first | apply Kd.S_alloc | apply Kd.S_drewN | apply Kd.S_drew)); exact HO_8.out⟩, ⟨by repeat (first | (with_reducible first | exact HB.out | apply below_alloc | apply pw_below_drewN | apply below_drew1) | exact HB.out)⟩⟩
              case round =>
                clear H'
                try clear c1
                try clear p1
                try clear q1
                try clear hx1
                try clear c2
                try clear p2
                try clear c5
                try clear c6
                try clear c6b0
                try clear p6
                try clear c7
                try clear c7b0
                try clear c8
                try clear c8b0
                try clear c10
                try clear c14
                try clear c14b0
                try clear c16
                try clear c16b0
                try clear c17
                try clear c17b0
                try clear c18
                try clear c18b0
                try clear p18
                try clear q18
                try clear hx18
                try clear hx181_0
                try clear hx188_0
                try clear hx189_0
                try clear p1
                try clear p181
                try clear p188
                try clear p189
                try clear p2
                try clear p6
                try clear q1
                try clear q181
                try clear q188
                try clear q189
                obtain ⟨x8_3, x13_3, rfl, HA, HK3, HO_8, HB⟩ := hrel
                cases gk with
                | zero => exact absurd HA.out (by simp [impl_pushed.l2])
                | succ k3 =>
                  have H := HA.out
                  clear HA
                  simp only [impl_pushed.l2] at H
                  by_cases c21 : x13_3 < (l2.length : Int)
                  · rw [if_pos c21] at H
                    have c21b0 : decide (x13_3 < (l2.length : Int)) = true := decide_eq_true c21
                    clear c21
                    obtain ⟨ji22, hji22⟩ : ∃ j_ : Int, (wrap64 (x13_3 - 1)) = j_ := ⟨_, rfl⟩
                    replace H : (if 0 ≤ (ji22) then (if (ji22) < (l2.length : Int) then (if 0 ≤ x13_3 then (if 0 ≤ (rd l2 x13_3) then (if (rd l2 x13_3) < (x8_3.length : Int) then (if 0 ≤ (rd l2 (ji22)) then (if (rd l2 (ji22)) < ((rd_L1 x8_3 (rd l2 x13_3)).length : Int) then ((some (x8_3.set ((rd l2 x13_3) : Int).toNat ((rd_L1 x8_3 (rd l2 x13_3)).set ((rd l2 (ji22)) : Int).toNat (wrap64 ((rd (rd_L1 x8_3 (rd l2 x13_3)) (rd l2 (ji22))) - (mn x9_2 (rd (rd_L1 x8_3 (rd l2 x13_3)) (rd l2 (ji22))))))) : List (List Int))).bind fun y199 => (if (rd l2 (ji22)) < (x8_3.length : Int) then (if (rd l2 x13_3) < ((rd_L1 y199 (rd l2 (ji22))).length : Int) then (impl_pushed.l2 k3 l2 (y199.set ((rd l2 (ji22)) : Int).toNat ((rd_L1 y199 (rd l2 (ji22))).set ((rd l2 x13_3) : Int).toNat (wrap64 ((rd (rd_L1 y199 (rd l2 (ji22))) (rd l2 x13_3)) + (wrap64 (x9_2 - (mn x9_2 (rd (rd_L1 x8_3 (rd l2 x13_3)) (rd l2 (ji22)))))))))) x9_2 (wrap64 (x13_3 + 1))) else (none)) else (none))) else (none)) else (none)) else (none)) else (none)) else (none)) else (none)) else (none)) = some (r1, r2) := by first | (rw [hji22] at H; exact H) | (simp only [hji22] at H ⊢; exact H)
                    have hji22w : (IntKind.i64.wrap (x13_3 - 1)) = ji22 := (i64_w _).trans hji22
                    by_cases c23 : 0 ≤ (ji22)
                    · rw [if_pos c23] at H
                      have c23b0 : decide (0 ≤ (ji22)) = true := decide_eq_true c23
                      clear c23
                      by_cases c24 : (ji22) < (l2.length : Int)
                      · rw [if_pos c24] at H
                        have c24b0 : decide ((ji22) < (l2.length : Int)) = true := decide_eq_true c24
                        clear c24
                        by_cases c25 : 0 ≤ x13_3
                        · rw [if_pos c25] at H
                          have c25b0 : decide (0 ≤ x13_3) = true := decide_eq_true c25
                          clear c25
                          by_cases c26 : 0 ≤ (rd l2 x13_3)
                          · rw [if_pos c26] at H
                            have c26b0 : decide (0 ≤ (rd l2 x13_3)) = true := decide_eq_true c26
                            clear c26
                            by_cases c27 : (rd l2 x13_3) < (x8_3.length : Int)
                            · rw [if_pos c27] at H
                              have c27b0 : decide ((rd l2 x13_3) < (x8_3.length : Int)) = true := decide_eq_true c27
                              clear c27
                              by_cases c28 : 0 ≤ (rd l2 (ji22))
                              · rw [if_pos c28] at H
                                have c28b0 : decide (0 ≤ (rd l2 (ji22))) = true := decide_eq_true c28
                                clear c28
                                by_cases c29 : (rd l2 (ji22)) < ((rd_L1 x8_3 (rd l2 x13_3)).length : Int)
                                · rw [if_pos c29] at H
                                  have c29b0 : decide ((rd l2 (ji22)) < ((rd_L1 x8_3 (rd l2 x13_3)).length : Int)) = true := decide_eq_true c29
                                  clear c29
                                  obtain ⟨ji30, hji30⟩ : ∃ j_ : Int, (mn x9_2 (rd (rd_L1 x8_3 (rd l2 x13_3)) (rd l2 (ji22)))) = j_ := ⟨_, rfl⟩
                                  replace H : ((some (x8_3.set ((rd l2 x13_3) : Int).toNat ((rd_L1 x8_3 (rd l2 x13_3)).set ((rd l2 (ji22)) : Int).toNat (wrap64 ((rd (rd_L1 x8_3 (rd l2 x13_3)) (rd l2 (ji22))) - (ji30)))) : List (List Int))).bind fun y199 => (if (rd l2 (ji22)) < (x8_3.length : Int) then (if (rd l2 x13_3) < ((rd_L1 y199 (rd l2 (ji22))).length : Int) then (impl_pushed.l2 k3 l2 (y199.set ((rd l2 (ji22)) : Int).toNat ((rd_L1 y199 (rd l2 (ji22))).set ((rd l2 x13_3) : Int).toNat (wrap64 ((rd (rd_L1 y199 (rd l2 (ji22))) (rd l2 x13_3)) + (wrap64 (x9_2 - (ji30))))))) x9_2 (wrap64 (x13_3 + 1))) else (none)) else (none))) = some (r1, r2) := by first | (rw [hji30] at H; exact H) | (simp only [hji30] at H ⊢; exact H)
                                  have hji30_ : (if (rd (rd_L1 x8_3 (rd l2 x13_3)) (rd l2 (ji22))) < x9_2 then (rd (rd_L1 x8_3 (rd l2 x13_3)) (rd l2 (ji22))) else x9_2) = ji30 := hji30
                                  obtain ⟨y197, hy197⟩ : ∃ y_ : List Int, y_ = ((rd_L1 x8_3 (rd l2 x13_3)).set ((rd l2 (ji22)) : Int).toNat (wrap64 ((rd (rd_L1 x8_3 (rd l2 x13_3)) (rd l2 (ji22))) - (ji30)))) := ⟨_, rfl⟩
                                  replace H : ((some (x8_3.set ((rd l2 x13_3) : Int).toNat y197 : List (List Int))).bind fun y199 => (if (rd l2 (ji22)) < (x8_3.length : Int) then (if (rd l2 x13_3) < ((rd_L1 y199 (rd l2 (ji22))).length : Int) then (impl_pushed.l2 k3 l2 (y199.set ((rd l2 (ji22)) : Int).toNat ((rd_L1 y199 (rd l2 (ji22))).set ((rd l2 x13_3) : Int).toNat (wrap64 ((rd (rd_L1 y199 (rd l2 (ji22))) (rd l2 x13_3)) + (wrap64 (x9_2 - (ji30))))))) x9_2 (wrap64 (x13_3 + 1))) else (none)) else (none))) = some (r1, r2) := by first | (rw [hy197]; with_reducible exact H) | (have H2_ := (Option.bind_some _ _).symm.trans H; rw [hy197]; with_reducible exact H2_) | (have H2_ := (Option.bind_some _ _).symm.trans H; with_reducible exact H2_) | with_reducible exact H | (rw [hy197]; exact H) | exact H
                                  have Ny197 := Aside0.mk hy197
                                  clear hy197
                                  obtain ⟨y199, hy199⟩ : ∃ y_ : List (List Int), y_ = (x8_3.set ((rd l2 x13_3) : Int).toNat y197) := ⟨_, rfl⟩
                                  replace H : (if (rd l2 (ji22)) < (x8_3.length : Int) then (if (rd l2 x13_3) < ((rd_L1 y199 (rd l2 (ji22))).length : Int) then (impl_pushed.l2 k3 l2 (y199.set ((rd l2 (ji22)) : Int).toNat ((rd_L1 y199 (rd l2 (ji22))).set ((rd l2 x13_3) : Int).toNat (wrap64 ((rd (rd_L1 y199 (rd l2 (ji22))) (rd l2 x13_3)) + (wrap64 (x9_2 - (ji30))))))) x9_2 (wrap64 (x13_3 + 1))) else (none)) else (none)) = some (r1, r2) := by first | (rw [hy199]; with_reducible exact H) | (have H2_ := (Option.bind_some _ _).symm.trans H; rw [hy199]; with_reducible exact H2_) | (have H2_ := (Option.bind_some _ _).symm.trans H; with_reducible exact H2_) | with_reducible exact H | (rw [hy199]; exact H) | exact H
                                  have Ny199 := Aside0.mk hy199
                                  clear hy199
                                  by_cases c32 : (rd l2 (ji22)) < (x8_3.length : Int)
                                  · rw [if_pos c32] at H
                                    have c32b0 : decide ((rd l2 (ji22)) < (x8_3.length : Int)) = true := decide_eq_true c32
                                    clear c32
                                    by_cases c33 : (rd l2 x13_3) < ((rd_L1 y199 (rd l2 (ji22))).length : Int)
                                    · rw [if_pos c33] at H
                                      have c33b0 : decide ((rd l2 x13_3) < ((rd_L1 y199 (rd l2 (ji22))).length : Int)) = true := decide_eq_true c33
                                      clear c33
                                      obtain ⟨y202, hy202⟩ : ∃ y_ : List Int, y_ = ((rd_L1 y199 (rd l2 (ji22))).set ((rd l2 x13_3) : Int).toNat (wrap64 ((rd (rd_L1 y199 (rd l2 (ji22))) (rd l2 x13_3)) + (wrap64 (x9_2 - (ji30)))))) := ⟨_, rfl⟩
                                      replace H : (impl_pushed.l2 k3 l2 (y199.set ((rd l2 (ji22)) : Int).toNat y202) x9_2 (wrap64 (x13_3 + 1))) = some (r1, r2) := by first | (rw [hy202]; with_reducible exact H) | (have H2_ := (Option.bind_some _ _).symm.trans H; rw [hy202]; with_reducible exact H2_) | (have H2_ := (Option.bind_some _ _).symm.trans H; with_reducible exact H2_) | with_reducible exact H | (rw [hy202]; exact H) | exact H
                                      have Ny202 := Aside0.mk hy202
                                      clear hy202
                                      obtain ⟨y204, hy204⟩ : ∃ y_ : List (List Int), y_ = (y199.set ((rd l2 (ji22)) : Int).toNat y202) := ⟨_, rfl⟩
                                      replace H : (impl_pushed.l2 k3 l2 y204 x9_2 (wrap64 (x13_3 + 1))) = some (r1, r2) := by first | (rw [hy204]; with_reducible exact H) | (have H2_ := (Option.bind_some _ _).symm.trans H; rw [hy204]; with_reducible exact H2_) | (have H2_ := (Option.bind_some _ _).symm.trans H; with_reducible exact H2_) | with_reducible exact H | (rw [hy204]; exact H) | exact H
                                      have Ny204 := Aside0.mk hy204
                                      clear hy204
                                      have H' := Aside0.mk H
                                      clear H
                                      have p191 : 0 ≤ ((ji22) : Int) := of_decide_eq_true (by first | (with_reducible assumption) | assumption)
                                      have q191 : (ji22) < (l2.length : Int) := of_decide_eq_true (by first | (with_reducible assumption) | assumption)
                                      obtain ⟨ad191, e191, hx191_0⟩ := Kd.at_int HR2.out (ji22) p191 q191
                                      cases e191
                                      replace hx191_0 := (HB.out.cell (World.block_lt_of_cell? w _ hx191_0)).trans hx191_0
                                      replace p191 := eq_true p191
                                      replace q191 := eq_true q191
                                      have p192 : 0 ≤ (x13_3 : Int) := of_decide_eq_true (by first | (with_reducible assumption) | assumption)
                                      have q192 : x13_3 < (l2.length : Int) := of_decide_eq_true (by first | (with_reducible assumption) | assumption)
                                      obtain ⟨ad192, e192, hx192_0⟩ := Kd.at_int HR2.out x13_3 p192 q192
                                      obtain rfl : ad191 = ad192 := (by injection e192)
                                      replace hx192_0 := (HB.out.cell (World.block_lt_of_cell? w _ hx192_0)).trans hx192_0
                                      replace p192 := eq_true p192
                                      replace q192 := eq_true q192
                                      have q26 : 0 ≤ rd l2 x13_3 := of_decide_eq_true c26b0
                                      have q27 : rd l2 x13_3 < (x8_3.length : Int) := of_decide_eq_true c27b0
                                      have q28 : 0 ≤ rd l2 ji22 := of_decide_eq_true c28b0
                                      have q29 : rd l2 ji22 < ((rd_L1 x8_3 (rd l2 x13_3)).length : Int) := of_decide_eq_true c29b0
                                      have q32 : rd l2 ji22 < (x8_3.length : Int) := of_decide_eq_true c32b0
                                      have q33 : rd l2 x13_3 < ((rd_L1 y199 (rd l2 ji22)).length : Int) := of_decide_eq_true c33b0
                                      have HQ := Aside0.mk (And.intro q26 (And.intro q28 (And.intro q32 q33)))
                                      obtain ⟨g1, cg, rfl, _, _, _⟩ := Kd.S_form HO_8.out (by omega)
                                      have HQ3 := Aside0.mk (And.intro q27 q29)
                                      replace q26 := eq_true q26
                                      replace q27 := eq_true q27
                                      replace q28 := eq_true q28
                                      replace q29 := eq_true q29
                                      replace q32 := eq_true q32
                                      replace q33 := eq_true q33
                                      go_wp2
                                      go_quiet (fail)
                                      generalize hq_ : World.drewN wr _ = wq
                                      have n0_ := Aside0.mk (Kd.S_at hq_ HO_8.out)
                                      have n2_ := Aside0.mk (below_at hq_ HB.out)
                                      clear hq_ HO_8 HB
                                      have HO_8 := n0_
                                      have HB := n2_
                                      clear n0_ n2_
                                      obtain ⟨gr, cr, hc1, hc2, hc3, hc4, hput⟩ := impl_pushed.put HO_8.out (rd l2 x13_3) (rd l2 ji22) HQ.out.1 HQ3.out.1 HQ.out.2.1 HQ3.out.2
                                      have HZ := Aside0.mk hc4
                                      have HP := Aside0.mk hput
                                      have HLY := Aside0.mk (show y199.length = x8_3.length by rw [Ny199.out, List.length_set])
                                      clear hput hc4
                                      (first | simp only [add_plain] at hc1 | skip)
                                      go_wp2_with (first | ((with_reducible refine gate_store (t := 3) (p := 83) rfl ?_); refine store_event (t := 3) (p := 83) (v := ?vo_) (w1 := (wq.setCell ⟨gr, (rd l2 ji22).toNat, none⟩ (.int .i64 (wrap64 (rd (rd_L1 x8_3 (rd l2 x13_3)) (rd l2 ji22) - ji30))))) ?hg ?ho ?hn ?hr ?_; (case ho => rfl); (case hg => rfl); (case hn => rfl); (case hr => first | (go_simp; done) | (go_simp; rfl)); intro w2 hw; have HS2 := Aside0.mk (show Kd.S (Kd.slice 3 (Kd.int .i64)) 31 w2 w.heap.size (fun _ => True) (.slice (some ⟨g1, 0, none⟩) x8_3.length cg) y199 from by rw [hw, Ny199.out, Ny197.out]; exact HP.out _); have HB2 := Aside0.mk (show Below w.heap.size w w2 from by rw [hw]; exact below_set HB.out HZ.out.2); obtain ⟨gs, cs, hd1, hd2, hd3, hd4, hput2⟩ := impl_pushed.put HS2.out (rd l2 ji22) (rd l2 x13_3) HQ.out.2.1 (by have := HQ.out.2.2.1; have := HLY.out; omega) HQ.out.1 HQ.out.2.2.2; (first | simp only [add_plain] at hd1 | skip); have HZ2 := Aside0.mk hd4; have HP2 := Aside0.mk hput2; clear hput2 hd4 hw hc1 hc2 hc3))
                                      generalize hw : (w2.setCell ⟨gs, (rd l2 x13_3).toNat, none⟩ (.int .i64 (wrap64 (rd (rd_L1 y199 (rd l2 ji22)) (rd l2 x13_3) + wrap64 (x9_2 - ji30))))) = w3
                                      have HS3 := Aside0.mk (show Kd.S (Kd.slice 3 (Kd.int .i64)) 31 w3 w.heap.size (fun _ => True) (.slice (some ⟨g1, 0, none⟩) x8_3.length cg) y204 from by rw [← hw, Ny204.out, Ny202.out]; exact HP2.out _)
                                      have HB3 := Aside0.mk (show Below w.heap.size w w3 from by rw [← hw]; exact below_set HB2.out HZ2.out.2)
                                      clear hw hd1 hd2 hd3
                                      go_roundg k3
                                      case measure => have := HK1.out; have := HK2.out; have := HK3.out; omega
                                      case rel => exact ⟨(y204), (wrap64 (x13_3 + 1)), (by first | rfl | (simp; done) | (simp [*]; done)), H', ⟨by have := HK1.out; have := HK2.out; have := HK3.out; omega⟩, HS3, HB3⟩
                                    · rw [if_neg c33] at H
                                      exact absurd H (by simp)
                                  · rw [if_neg c32] at H
                                    exact absurd H (by simp)
                                · rw [if_neg c29] at H
                                  exact absurd H (by simp)
                              · rw [if_neg c28] at H
                                exact absurd H (by simp)
                            · rw [if_neg c27] at H
                              exact absurd H (by simp)
                          · rw [if_neg c26] at H
                            exact absurd H (by simp)
                        · rw [if_neg c25] at H
                          exact absurd H (by simp)
                      · rw [if_neg c24] at H
                        exact absurd H (by simp)
                    · rw [if_neg c23] at H
                      exact absurd H (by simp)
                  · rw [if_neg c21] at H
                    have c21b0 : decide (x13_3 < (l2.length : Int)) = false := decide_eq_false c21
                    clear c21
                    simp only [Option.some.injEq, Prod.mk.injEq] at H
                    obtain ⟨rfl, rfl⟩ := H
                    go_wp2
                    repeat (go_quiet (fail); try go_wp2)
                    go_ret2
                    exact ⟨_, by first | rfl | (simp [errW_none, errW_some] <;> rfl) | (simp [*, errW_none, errW_some] <;> rfl), by (with_reducible repeat (first | apply Kd.S_alloc | apply Kd.S_drewN | apply Kd.S_drew)); exact HO_8.out, by repeat (first | (with_reducible first | exact HB.out | apply below_alloc | apply pw_below_drewN | apply below_drew1) | exact HB.out)⟩

/-! ### bits_Mul32: function 74 -/
def bits_Mul32.f (a0 : Int) (a1 : Int) : Option (Int × Int) := some (((IntKind.u64.wrap ((IntKind.u64.wrap (a0)) * (IntKind.u64.wrap (a1)))) / 4294967296) % 4294967296, (IntKind.u64.wrap ((IntKind.u64.wrap (a0)) * (IntKind.u64.wrap (a1)))) % 4294967296)
set_option maxHeartbeats 8000000 in
set_option maxRecDepth 100000 in
theorem bits_Mul32.calls (a0 : Int) (a1 : Int) (r1 : Int) (r2 : Int) (w : World) (h : bits_Mul32.f a0 a1 = some (r1, r2)) :
    Calls Try.prog 74 #[.int .u32 a0, .int .u32 a1] w fun e w' => e = .returned (.tuple #[.int .u32 r1, .int .u32 r2]) ∧ Drawn0 w w' := by
  have H : (some (((IntKind.u64.wrap ((IntKind.u64.wrap (a0)) * (IntKind.u64.wrap (a1)))) / 4294967296) % 4294967296, (IntKind.u64.wrap ((IntKind.u64.wrap (a0)) * (IntKind.u64.wrap (a1)))) % 4294967296)) = some (r1, r2) := h
  clear h
  simp only [Option.some.injEq, Prod.mk.injEq] at H
  obtain ⟨rfl, rfl⟩ := H
  go_enter Try.func74, Try.ntmps74
  go_wp2
  go_ret2
  exact ⟨by first | rfl | (simp; done) | (simp [*]; done), by repeat (first | exact Drawn0.refl _ | apply Drawn0.step)⟩

/-! ### bits_Mul64: function 75 -/
def bits_Mul64.f (a0 : Int) (a1 : Int) : Option (Int × Int) := some (IntKind.u64.wrap ((IntKind.u64.wrap ((IntKind.u64.wrap ((a0 / 4294967296) * (a1 / 4294967296))) + ((IntKind.u64.wrap ((IntKind.u64.wrap ((a0 / 4294967296) * (Go.bits .and .u64 a1 4294967295))) + ((IntKind.u64.wrap ((Go.bits .and .u64 a0 4294967295) * (Go.bits .and .u64 a1 4294967295))) / 4294967296))) / 4294967296))) + ((IntKind.u64.wrap ((Go.bits .and .u64 (IntKind.u64.wrap ((IntKind.u64.wrap ((a0 / 4294967296) * (Go.bits .and .u64 a1 4294967295))) + ((IntKind.u64.wrap ((Go.bits .and .u64 a0 4294967295) * (Go.bits .and .u64 a1 4294967295))) / 4294967296))) 4294967295) + (IntKind.u64.wrap ((Go.bits .and .u64 a0 4294967295) * (a1 / 4294967296))))) / 4294967296)), IntKind.u64.wrap (a0 * a1))
set_option maxHeartbeats 8000000 in
set_option maxRecDepth 100000 in
theorem bits_Mul64.calls (a0 : Int) (a1 : Int) (r1 : Int) (r2 : Int) (w : World) (h : bits_Mul64.f a0 a1 = some (r1, r2)) :
    Calls Try.prog 75 #[.int .u64 a0, .int .u64 a1] w fun e w' => e = .returned (.tuple #[.int .u64 r1, .int .u64 r2]) ∧ Drawn0 w w' := by
  have H : (some (IntKind.u64.wrap ((IntKind.u64.wrap ((IntKind.u64.wrap ((a0 / 4294967296) * (a1 / 4294967296))) + ((IntKind.u64.wrap ((IntKind.u64.wrap ((a0 / 4294967296) * (Go.bits .and .u64 a1 4294967295))) + ((IntKind.u64.wrap ((Go.bits .and .u64 a0 4294967295) * (Go.bits .and .u64 a1 4294967295))) / 4294967296))) / 4294967296))) + ((IntKind.u64.wrap ((Go.bits .and .u64 (IntKind.u64.wrap ((IntKind.u64.wrap ((a0 / 4294967296) * (Go.bits .and .u64 a1 4294967295))) + ((IntKind.u64.wrap ((Go.bits .and .u64 a0 4294967295) * (Go.bits .and .u64 a1 4294967295))) / 4294967296))) 4294967295) + (IntKind.u64.wrap ((Go.bits .and .u64 a0 4294967295) * (a1 / 4294967296))))) / 4294967296)), IntKind.u64.wrap (a0 * a1))) = some (r1, r2) := h
  clear h
  simp only [Option.some.injEq, Prod.mk.injEq] at H
  obtain ⟨rfl, rfl⟩ := H
  go_enter Try.func75, Try.ntmps75
  go_wp2
  go_ret2
  exact ⟨by first | rfl | (simp; done) | (simp [*]; done), by repeat (first | exact Drawn0.refl _ | apply Drawn0.step)⟩

/-! ### bits_Mul: function 73 -/
def bits_Mul.f (a0 : Int) (a1 : Int) : Option (Int × Int) := (bits_Mul64.f a0 a1).bind fun bt190 => (some (bt190.1, bt190.2))
set_option maxHeartbeats 8000000 in
set_option maxRecDepth 100000 in
theorem bits_Mul.calls (a0 : Int) (a1 : Int) (r1 : Int) (r2 : Int) (w : World) (h : bits_Mul.f a0 a1 = some (r1, r2)) :
    Calls Try.prog 73 #[.int .u64 a0, .int .u64 a1] w fun e w' => e = .returned (.tuple #[.int .u64 r1, .int .u64 r2]) ∧ Drawn0 w w' := by
  have H : ((bits_Mul64.f a0 a1).bind fun bt190 => (some (bt190.1, bt190.2))) = some (r1, r2) := h
  clear h
  replace H := Option.bind_eq_some_iff.mp H
  obtain ⟨⟨t190, t191⟩, A30, H⟩ := H
  replace H : (some (t190, t191)) = some (r1, r2) := H
  have A3 := Aside0.mk A30
  clear A30
  simp only [Option.some.injEq, Prod.mk.injEq] at H
  obtain ⟨rfl, rfl⟩ := H
  go_enter Try.func73, Try.ntmps73
  go_wp2_with (first | ((with_reducible refine gate_callee (f := 75) rfl ?_); refine goesL_ (some 25) rfl rfl Try.func75 (by kernel_rfl) rfl #[.int .u64 a0, .int .u64 a1] rfl (by (try simp only [List.map_toArray, List.map_cons, List.map_nil]); first | done | rfl | (simp only [List.length_drop, List.length_take]; rfl)) ?_; (with_reducible refine (bits_Mul64.calls a0 a1 t190 t191 _ A3.out).mono ?_); rintro e w' ⟨rfl, ⟨nd, rfl⟩⟩; refine ⟨_, rfl, ?_⟩))
  go_ret2
  exact ⟨by first | rfl | (simp; done) | (simp [*]; done), by repeat (first | exact Drawn0.refl _ | apply Drawn0.step)⟩

/-! ### slices_Repeat_int_int: function 70 -/
def slices_Repeat_int_int.f (l0 : List Int) (a1 : Int) : Option (List Int) := match l0 with
  | [x] => if 1 ≤ a1 ∧ a1 ≤ 1000000 then some (List.replicate a1.toNat x) else none
  | _ => none
theorem slices_Repeat_int_int.mul (N : Nat) (h : N ≤ 1000000) : bits_Mul.f 1 (N : Int) = some (0, (N : Int)) := by
  have e0 : (1 : Int) / 4294967296 = 0 := by decide
  have e1 : ((N : Int)) / 4294967296 = 0 := by omega
  have e2 : Go.bits .and .u64 1 4294967295 = 1 := by decide
  have wz : IntKind.u64.wrap 0 = 0 := by decide
  have wn : IntKind.u64.wrap (N : Int) = (N : Int) := by
    unfold IntKind.wrap
    simp [IntKind.bits, IntKind.signed]
    omega
  unfold bits_Mul.f bits_Mul64.f
  rw [e0, e1, e2]
  have eb : Go.bits .and .u64 (N : Int) 4294967295 = (N : Int) := by
    have h1 : (BitVec.ofInt 64 (N : Int)).toNat = N := by
      rw [BitVec.ofInt_natCast, BitVec.toNat_ofNat]
      exact Nat.mod_eq_of_lt (by omega)
    have h2 : (BitVec.ofInt 64 (4294967295 : Int)).toNat = 4294967295 := by decide
    show IntKind.u64.wrap ((BitVec.ofInt 64 (N : Int) &&& BitVec.ofInt 64 (4294967295 : Int)).toNat : Int) = _
    rw [BitVec.toNat_and, h1, h2, show (4294967295 : Nat) = 2 ^ 32 - 1 from rfl, Nat.and_two_pow_sub_one_eq_mod, Nat.mod_eq_of_lt (by omega)]
    exact wn
  have ez : Go.bits .and .u64 0 4294967295 = 0 := by decide
  have e3 : (0 : Int) / 4294967296 = 0 := by decide
  simp only [Int.zero_mul, Int.mul_zero, Int.one_mul, eb, wz, wn, e1, e3, ez, Int.zero_add, Int.add_zero, Option.bind_some]
theorem slices_Repeat_int_int.row {W : World} {base N : Nat} {ok : Nat → Prop} {v : Value} (h : (Kd.int .i64).R 3 W base ok v (List.replicate N 0)) (hN : 1 ≤ N) : ∃ (g cap : Nat) (cur : List Value), v = .slice (some ⟨g, 0, none⟩) N cap ∧ base ≤ g ∧ W.heap[g]? = some (.cells cur.toArray 3 (0, 0)) ∧ N ≤ cap ∧ cap ≤ maxLen ∧ cur.length = cap := by
  obtain ⟨_, ⟨_, hz⟩ | ⟨g, cap, cur, e, hb, hh, hle, hm, hs, _⟩⟩ := Kd.own_of_R h
  · simp at hz
    omega
  · refine ⟨g, cap, cur.toList, by rw [e]; simp, hb, by rw [hh], by simpa using hle, hm, by simpa using hs⟩
theorem slices_Repeat_int_int.unrow {W : World} {base N g cap : Nat} {x : Int} {cur : List Value} (hb : base ≤ g) (hh : W.heap[g]? = some (.cells cur.toArray 3 (0, 0))) (hle : N ≤ cap) (hm : cap ≤ maxLen) (hs : cur.length = cap) (ht : cur.take N = List.replicate N (.int .i64 x)) :
    (Kd.int .i64).R 3 W base (fun _ => True) (.slice (some ⟨g, 0, none⟩) N cap) (List.replicate N x) := by
  refine Kd.R_of_own ⟨by simp [encs], Or.inr ⟨g, cap, cur.toArray, by simp, hb, hh, by simpa using hle, hm, by simpa using hs, ?_⟩⟩ (fun _ _ => trivial)
  simp [encs, ht]
theorem slices_Repeat_int_int.spl {cur : List Value} {v : Value} {k m : Nat} (hk : cur.take k = List.replicate k v) (hkl : k + m ≤ cur.length) : (splice cur k (List.replicate m v)).take (k + m) = List.replicate (k + m) v := by
  unfold splice
  rw [hk, ← List.append_assoc, List.take_append_of_le_length (by simp), List.take_of_length_le (by simp), List.replicate_append_replicate]
set_option maxHeartbeats 1000000 in
set_option maxRecDepth 100000 in
theorem slices_Repeat_int_int.calls (A0 : Option Addr) (c0 : Nat) (l0 : List Int) (a1 : Int) (r : List Int) (w : World) (hr0 : Kd.C (Kd.int .i64) w A0 l0.length l0) (hc0 : l0.length ≤ c0) (h : slices_Repeat_int_int.f l0 a1 = some r) :
    Calls Try.prog 70 #[.slice A0 l0.length c0, .int .i64 a1] w fun e w' => ∃ v0_ : Value, e = .returned (v0_) ∧ Kd.R (Kd.int .i64) 3 w' w.heap.size (fun _ => True) v0_ r ∧ Below w.heap.size w w' := by
  obtain ⟨x, rfl⟩ : ∃ x, l0 = [x] := by
    unfold slices_Repeat_int_int.f at h
    split at h
    · exact ⟨_, rfl⟩
    · cases h
  have h2 : (if 1 ≤ a1 ∧ a1 ≤ 1000000 then some (List.replicate a1.toNat x) else none) = some r := h
  clear h
  split at h2
  case isFalse => cases h2
  case isTrue hn =>
  obtain rfl := Option.some.inj h2
  clear h2
  obtain ⟨N, rfl⟩ := Int.eq_ofNat_of_zero_le (show 0 ≤ a1 by omega)
  obtain ⟨ad, ea, hx⟩ := Kd.at_int hr0 0 (Int.le_refl 0) (by simp)
  cases ea
  have HX := Aside0.mk hx
  have HN := Aside0.mk (show 1 ≤ N ∧ N ≤ 1000000 by omega)
  have HM := Aside0.mk (slices_Repeat_int_int.mul N HN.out.2)
  have u1 : IntKind.u64.wrap ((1 : Nat) : Int) = 1 := by decide
  have u2 : IntKind.u64.wrap (1 : Int) = 1 := by decide
  have u3 : IntKind.u64.wrap (N : Int) = (N : Int) := by
    unfold IntKind.wrap
    simp [IntKind.bits, IntKind.signed]
    omega
  have u4 : IntKind.i64.wrap (N : Int) = (N : Int) := by
    unfold IntKind.wrap
    simp [IntKind.bits, IntKind.signed]
    omega
  have g1 : decide ((N : Int) < 0) = false := decide_eq_false (by omega)
  have g2 : decide ((N : Int) > 9223372036854775807) = false := decide_eq_false (by omega)
  have g3 : decide ((9223372036854775807 : Int) < (N : Int)) = false := decide_eq_false (by omega)
  have HSRC := Aside0.mk (show ∀ W, Below w.heap.size w W → ∀ (j : Nat) (v : Value), [Value.int .i64 x][j]? = some v → W.cell? (ad.add j) = some v from fun W hb j v hj => by
    have h0 : j = 0 := by
      have := (List.getElem?_eq_some_iff.1 hj).1
      simp only [List.length_singleton] at this
      omega
    subst h0
    obtain rfl : (.int .i64 x : Value) = v := by simpa using hj
    exact (hb.cell (World.block_lt_of_cell? w _ hx)).trans hx)
  clear hx hn hr0 hc0
  simp only [List.length_singleton]
  go_enter Try.func70, Try.ntmps70
  go_wp2_with (first | (go_at_call 73; refine (bits_Mul.calls 1 (N : Int) 0 (N : Int) _ HM.out).mono ?_; rintro e w' ⟨rfl, ⟨nd, rfl⟩⟩) | ((with_reducible refine gate_dst (N := 30) rfl ?_); refine Kd.R_make (Kd.int .i64) _ 3 rfl (N := 30) rfl 31 _ _ rfl (N : Int) rfl rfl Try.underlying31 (.int .i64 0) 8 info3 rfl (by decide) (by omega) 0 (ok := fun _ => True) (okp := fun _ => True) rfl (fun _ hk => hk) trivial (Int.natCast_nonneg _) (by have := HN.out.2; simp; omega) (pw_below_drewN (Below.refl _ w) _) (Nat.le_refl _) ?_; intro v1 w1 ho1 hb1 hg_ hnew_; clear hg_ hnew_; rw [Int.toNat_natCast] at ho1; obtain ⟨g, cap, cur, rfl, hbg, hgh, hle, hmx, hsz⟩ := slices_Repeat_int_int.row ho1 HN.out.1; have HB1 := Aside0.mk hb1; have HG1 := Aside0.mk (And.intro hbg (And.intro hgh (And.intro hle (And.intro hmx hsz)))); clear ho1 hb1 hbg hgh hle hmx hsz) | ((with_reducible refine wpList_copy_splice (o := ⟨some 33, _, _, _, _, _⟩) ?c1 (.tmp 31) (.tmp 32) 31 31 ?c2 3 ?c3 ?c4 (some ⟨g, 0, none⟩) (some ad) N cap 1 c0 ?c5 ?c6 g 0 cur 3 ?c7 [.int .i64 x] ?c8 ?c9 ?c10 ?c11 w.heap.size w ?c12 ?c13 ?c14); (case c1 => rfl); (case c2 => rfl); (case c3 => exact Try.underlying31); (case c4 => kernel_rfl); (case c5 => rfl); (case c6 => rfl); (case c7 => exact HG1.out.2.1); (case c8 => have := HN.out; show 1 = min 1 N; omega); (case c9 => exact (fun _ => ⟨rfl, ad, rfl, HSRC.out _ HB1.out⟩)); (case c10 => have h1_ := HG1.out.2.2; have h2_ := HN.out; show 0 + 1 ≤ cur.length; omega); (case c11 => simp [Value.oneCell']); (case c12 => exact HB1.out); (case c13 => exact HG1.out.1); intro w2 HG2 hB2; have HB2 := Aside0.mk hB2; clear hB2))
  go_loopg [8] N (fun gk v8 w' => ∃ (x8 : Int) (cu : List Value), v8 = .int .i64 x8 ∧ Aside0 (1 ≤ x8 ∧ x8 ≤ (N : Int) ∧ (N : Int) - x8 ≤ gk) ∧ Aside0 (w'.heap[g]? = some (.cells cu.toArray 3 (0, 0)) ∧ cu.length = cap ∧ cu.take x8.toNat = List.replicate x8.toNat (.int .i64 x)) ∧ Aside0 (Below w.heap.size w w'))
  case atStart =>
    refine ⟨1, splice cur 0 [.int .i64 x], rfl, ⟨by have := HN.out; omega⟩, ⟨HG2.out, ?_, ?_⟩, HB2⟩
    · rw [length_splice _ _ _ (by have h1_ := HG1.out.2.2; have h2_ := HN.out; show 0 + 1 ≤ cur.length; omega)]
      exact HG1.out.2.2.2.2
    · simp [splice]
  case round =>
    obtain ⟨x8, cu, rfl, HI, HC, HB⟩ := hrel
    by_cases c : x8 < (N : Int)
    · have cb : decide (x8 < (N : Int)) = true := decide_eq_true c
      have CC := Aside0.mk c
      have s1 : (0 ≤ x8) = True := eq_true (by have := HI.out; omega)
      have s2 : (x8 ≤ (N : Int)) = True := eq_true (by omega)
      have s3 : (x8 ≤ (cap : Int)) = True := eq_true (by have := HG1.out.2.2; omega)
      have s4 : decide (0 ≤ x8) = true := decide_eq_true (of_eq_true s1)
      have s5 : decide (x8 ≤ (N : Int)) = true := decide_eq_true (of_eq_true s2)
      have s6 : decide (x8 ≤ (cap : Int)) = true := decide_eq_true (of_eq_true s3)
      clear c
      obtain ⟨m, hm⟩ : ∃ m, m = Nat.min x8.toNat (N - x8.toNat) := ⟨_, rfl⟩
      have HM1 := Aside0.mk (show m = Nat.min x8.toNat (N - x8.toNat) ∧ 1 ≤ m ∧ m ≤ x8.toNat ∧ x8.toNat + m ≤ N from ⟨hm, by have h1_ : m = min x8.toNat (N - x8.toNat) := hm; have h2_ := HI.out; have h3_ := CC.out; omega⟩)
      have HNE := Aside0.mk (show ¬ cap = x8.toNat by have h1_ := HG1.out.2.2.1; have h3_ := CC.out; have h4_ := HI.out; omega)
      have hcn : (cap = x8.toNat) = False := eq_false HNE.out
      have HS1 := Aside0.mk (show ∀ (j : Nat) (v : Value), (List.replicate m (.int .i64 x : Value))[j]? = some v → wr.drew.cell? ((⟨g, 0, none⟩ : Addr).add j) = some v from fun j v hj => by
        have hjm : j < m := by
          have := (List.getElem?_eq_some_iff.1 hj).1
          rwa [List.length_replicate] at this
        rw [List.getElem?_replicate, if_pos hjm] at hj
        obtain rfl := Option.some.inj hj
        have hcell := Go.cell_of_row wr g j cu.toArray 3 (0, 0) HC.out.1
        rw [show ((⟨g, 0, none⟩ : Addr).add j) = ⟨g, j, none⟩ from by first | (rw [add_plain]; done) | (rw [add_plain]; congr 1; omega) | (simp only [add_plain, Nat.zero_add]) | (show (⟨g, 0 + j, none⟩ : Addr) = _; rw [Nat.zero_add])]
        show wr.cell? ⟨g, j, none⟩ = _
        rw [hcell]
        have ht := HC.out.2.2
        have h2 : (cu.take x8.toNat)[j]? = some (.int .i64 x) := by
          rw [ht, List.getElem?_replicate, if_pos (by have := HM1.out; omega)]
        rw [List.getElem?_take_of_lt (by have := HM1.out; omega)] at h2
        simpa using h2)
      clear hm
      try go_wp2
      refine start_ (n := 10) (S := fun w' => True) (ds := []) #[false, false, false, false, false, false, false, false, false, false] (by kernel_rfl) rfl rfl trivial (fun hHeld => ?_)
      refine pure_ (i := 0) (N := some 38) (v := ?_) (a' := ?_) #[true, false, false, false, false, false, false, false, false, false] rfl rfl (by kernel_rfl) (fun _ _ _ h => h) (Or.inl ⟨by rfl, ?_⟩) ?_ ?_
      rotate_left
      · intro w'
        go_simp
        with_reducible rfl
      rotate_left
      · simp only [Act.put, List.setIfInBounds_toArray, List.set_cons_zero, List.set_cons_succ, i64_w, i32_w]
        rfl
      refine pure_ (i := 1) (N := some 39) (v := ?_) (a' := ?_) #[true, true, false, false, false, false, false, false, false, false] rfl rfl (by kernel_rfl) (fun _ _ _ h => h) (Or.inl ⟨by rfl, ?_⟩) ?_ ?_
      rotate_left
      · intro w'
        go_simp
        with_reducible rfl
      rotate_left
      · simp only [Act.put, List.setIfInBounds_toArray, List.set_cons_zero, List.set_cons_succ, i64_w, i32_w]
        rfl
      refine pure_ (i := 2) (N := some 40) (v := ?_) (a' := ?_) #[true, true, true, false, false, false, false, false, false, false] rfl rfl (by kernel_rfl) (fun _ _ _ h => h) (Or.inl ⟨by rfl, ?_⟩) ?_ ?_
      rotate_left
      · intro w'
        go_simp
        with_reducible rfl
      rotate_left
      · simp only [Act.put, List.setIfInBounds_toArray, List.set_cons_zero, List.set_cons_succ, i64_w, i32_w]
        rfl
      refine pure_ (i := 3) (N := some 41) (v := ?_) (a' := ?_) #[true, true, true, true, false, false, false, false, false, false] rfl rfl (by kernel_rfl) (fun _ _ _ h => h) (Or.inl ⟨by rfl, ?_⟩) ?_ ?_
      rotate_left
      · intro w'
        go_simp
        with_reducible rfl
      rotate_left
      · simp only [Act.put, List.setIfInBounds_toArray, List.set_cons_zero, List.set_cons_succ, i64_w, i32_w]
        rfl
      refine pure_ (i := 4) (N := some 42) (v := ?_) (a' := ?_) #[true, true, true, true, true, false, false, false, false, false] rfl rfl (by kernel_rfl) (fun _ _ _ h => h) (Or.inl ⟨by rfl, ?_⟩) ?_ ?_
      rotate_left
      · intro w'
        go_simp
        with_reducible rfl
      rotate_left
      · simp only [Act.put, List.setIfInBounds_toArray, List.set_cons_zero, List.set_cons_succ, i64_w, i32_w]
        rfl
      refine pure_ (i := 5) (N := some 43) (v := ?_) (a' := ?_) #[true, true, true, true, true, true, false, false, false, false] rfl rfl (by kernel_rfl) (fun _ _ _ h => h) (Or.inl ⟨by rfl, ?_⟩) ?_ ?_
      rotate_left
      · intro w'
        go_simp
        with_reducible rfl
      rotate_left
      · simp only [Act.put, List.setIfInBounds_toArray, List.set_cons_zero, List.set_cons_succ, i64_w, i32_w]
        rfl
      refine pure_ (i := 6) (N := some 44) (v := ?_) (a' := ?_) #[true, true, true, true, true, true, true, false, false, false] rfl rfl (by kernel_rfl) (fun _ _ _ h => h) (Or.inl ⟨by rfl, ?_⟩) ?_ ?_
      rotate_left
      · intro w'
        go_simp
        with_reducible rfl
      rotate_left
      · simp only [Act.put, List.setIfInBounds_toArray, List.set_cons_zero, List.set_cons_succ, i64_w, i32_w]
        rfl
      refine one_ (i := 7) (N := some 45) #[true, true, true, true, true, true, true, true, false, false] rfl rfl (by kernel_rfl) (by decide) (fun K hK => ?_)
      refine step_copy_splice rfl (.tmp 41) (.tmp 44) 31 31 rfl 3 Try.underlying31 (by kernel_rfl) (some ⟨g, x8.toNat, none⟩) (some ⟨g, 0, none⟩) (N - x8.toNat) (cap - x8.toNat) x8.toNat cap (by rfl) (by rfl) g x8.toNat cu 3 HC.out.1 (List.replicate m (.int .i64 x)) (by rw [List.length_replicate]; exact HM1.out.1) (fun _ => ⟨rfl, ⟨g, 0, none⟩, rfl, HS1.out⟩) (by rw [List.length_replicate]; have h1_ := HM1.out; have h2_ := HG1.out.2.2; have h3_ := HC.out.2.1; omega) (by intro v hv; rw [List.eq_of_mem_replicate hv]; rfl) w.heap.size w (below_drew1 HB.out) HG1.out.1 ?_
      intro w4 HG4 hB4
      have HB4 := Aside0.mk hB4
      clear hB4
      rw [List.length_replicate]
      refine hK.out _ _ trivial (fun hHeld => ?_)
      clear hK K
      refine norm_ (a' := ?_) ?_ ?_
      rotate_left
      · show Act.put _ (some 45) _ = _
        simp only [Act.put, List.setIfInBounds_toArray, List.set_cons_zero, List.set_cons_succ, i64_w, i32_w]
        rfl
      refine pure_ (i := 8) (N := some 46) (v := ?_) (a' := ?_) #[true, true, true, true, true, true, true, true, true, false] rfl rfl (by kernel_rfl) (fun _ _ _ h => h) (Or.inl ⟨by rfl, ?_⟩) ?_ ?_
      rotate_left
      · intro w'
        go_simp
        with_reducible rfl
      rotate_left
      · simp only [Act.put, List.setIfInBounds_toArray, List.set_cons_zero, List.set_cons_succ, i64_w, i32_w]
        rfl
      refine pure_ (i := 9) (N := some 8) (v := ?_) (a' := ?_) #[true, true, true, true, true, true, true, true, true, true] rfl rfl (by kernel_rfl) (fun _ _ _ h => h) (Or.inl ⟨by rfl, ?_⟩) ?_ ?_
      rotate_left
      · intro w'
        go_simp
        with_reducible rfl
      rotate_left
      · simp only [Act.put, List.setIfInBounds_toArray, List.set_cons_zero, List.set_cons_succ, i64_w, i32_w]
        rfl
      refine done_ (by kernel_rfl) ?_
      try go_wp2
      go_roundg (N - (x8.toNat + m))
      case measure => have h1_ := HI.out; have h2_ := HM1.out; have h3_ := CC.out; omega
      case rel =>
        refine ⟨x8 + (m : Int), splice cu x8.toNat (List.replicate m (.int .i64 x)), ?_, ⟨by have h1_ := HI.out; have h2_ := HM1.out; have h3_ := CC.out; omega⟩, ⟨HG4.out, ?_, ?_⟩, HB4⟩
        · first | rfl | (rw [show wrap64 (x8 + (m : Int)) = x8 + (m : Int) by have h1_ := HI.out; have h2_ := HM1.out; have h3_ := HN.out; have h4_ := CC.out; unfold wrap64; omega]) | (simp; have h1_ := HI.out; have h2_ := HM1.out; have h3_ := HN.out; have h4_ := CC.out; unfold wrap64; omega)
        · rw [length_splice _ _ _ (by rw [List.length_replicate]; have h1_ := HM1.out; have h2_ := HG1.out.2.2; have h3_ := HC.out.2.1; omega)]
          exact HC.out.2.1
        · rw [show (x8 + (m : Int)).toNat = x8.toNat + m by have h1_ := HI.out; omega]
          exact slices_Repeat_int_int.spl HC.out.2.2 (by have h1_ := HM1.out; have h2_ := HG1.out.2.2; have h3_ := HC.out.2.1; omega)
    · have cb : decide (x8 < (N : Int)) = false := decide_eq_false c
      have CC := Aside0.mk c
      clear c
      go_wp2
      go_ret
      refine ⟨.slice (some ⟨g, 0, none⟩) N cap, rfl, ?_, HB.out⟩
      have h1_ := HI.out
      have h2_ := CC.out
      have h3_ := HC.out.2.2
      rw [show x8.toNat = N by omega] at h3_
      try rw [Int.toNat_natCast]
      exact slices_Repeat_int_int.unrow HG1.out.1 HC.out.1 HG1.out.2.2.1 HG1.out.2.2.2.1 HC.out.2.1 h3_

end Go.Proofs.Ytdbepjnapjjlcaa.GLMostFlow
