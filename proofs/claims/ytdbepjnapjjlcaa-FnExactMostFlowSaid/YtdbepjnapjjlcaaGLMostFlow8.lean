-- Written by a program of this session (gprint.py), over the kit's print: not trusted: Lean checks it.
import Derived.Test.YtdbepjnapjjlcaaGLMostFlow0
import Derived.Test.YtdbepjnapjjlcaaGLMostFlow1
import Derived.Test.YtdbepjnapjjlcaaGLMostFlow2
import Derived.Test.YtdbepjnapjjlcaaGLMostFlow5
import Derived.Test.YtdbepjnapjjlcaaGLMostFlow6
import Derived.Test.YtdbepjnapjjlcaaGLMostFlow7
namespace Go.Proofs.Ytdbepjnapjjlcaa.GLMostFlow
open Go.RowKit Go.Proofs.YtdbepjnapjjlcaaW.PrintWords Go.Proofs.YtdbepjnapjjlcaaW.PrintLast Go.Proofs.YtdbepjnapjjlcaaW.PrintMore Go.Proofs.YtdbepjnapjjlcaaW.PrintOwn
attribute [local go_sem] max2_int min2_int max_two min_two max_three min_three max_four min_four   -- for this text's walks alone
set_option linter.unusedVariables false
set_option linter.unusedSimpArgs false

/-! ### impl_mostFlow: function 58 -/
mutual
def impl_mostFlow.l0 : Nat → List (List Int) → List (List Int) → Int → Int → Option ((List (List Int)))
  | 0, _, _, _, _ => none
  | k + 1, x0, x3, x7, x8 => if x8 < x7 then (if 0 ≤ (x0.length : Int) then (if ((x0.length : Int) : Int).toNat ≤ 35184372088832 then (if x3.length < 5864062014805 then (impl_mostFlow.l0 k x0 (x3 ++ [(List.replicate ((x0.length : Int) : Int).toNat 0)]) x7 (wrap64 (x8 + 1))) else (none)) else (none)) else (none)) else (impl_mostFlow.l1 k x0 x3)
def impl_mostFlow.l1 : Nat → List (List Int) → List (List Int) → Option ((List (List Int)))
  | 0, _, _ => none
  | k + 1, x0, x3 => (impl_comeTo.f k x0 x3).bind fun from_ => (if 0 ≤ wrap64 ((x0.length : Int) - 1) ∧ wrap64 ((x0.length : Int) - 1) < (from_.length : Int) then (if rd from_ (wrap64 ((x0.length : Int) - 1)) < 0 then some x3 else (impl_nextWay.f k x0 x3).bind fun t244 => (if t244 = [] then none else ((impl_pushed.f k x0 x3 t244).bind fun bt247 => (impl_mostFlow.l1 k x0 bt247.1)))) else none)
end
def impl_mostFlow.f (k : Nat) (l0 : List (List Int)) : Option ((List (List Int))) := impl_mostFlow.l0 k l0 (([] : List (List Int))) (l0.length : Int) 0
theorem impl_mostFlow.mono_l : ∀ k, (∀ y0 y1 y2 y3, LeO (impl_mostFlow.l0 k y0 y1 y2 y3) (impl_mostFlow.l0 (k + 1) y0 y1 y2 y3)) ∧ (∀ y0 y1, LeO (impl_mostFlow.l1 k y0 y1) (impl_mostFlow.l1 (k + 1) y0 y1))
  | 0 => ⟨fun _ _ _ _ r h => by simp [impl_mostFlow.l0] at h, fun _ _ r h => by simp [impl_mostFlow.l1] at h⟩
  | k + 1 => by
    obtain ⟨ih0, ih1⟩ := impl_mostFlow.mono_l k
    refine ⟨?_, ?_⟩
    · intro y0 y1 y2 y3
      unfold impl_mostFlow.l0
      repeat' first
      | (with_reducible exact ih0 _ _ _ _)
      | (with_reducible exact ih1 _ _)
      | (with_reducible exact impl_comeTo.mono _ _ _)
      | (with_reducible exact impl_nextWay.mono _ _ _)
      | (with_reducible exact impl_pushed.mono _ _ _ _)
      | (with_reducible exact LeO.refl _)
      | (with_reducible exact LeO.none _)
      | (with_reducible refine LeO.ite ?_ ?_)
      | (with_reducible refine LeO.bind ?_ (fun _ => ?_))
      | exact ih0 _ _ _ _
      | exact ih1 _ _
      | exact impl_nextWay.mono _ _ _
      | exact impl_pushed.mono _ _ _ _
      | exact LeO.none _
      | refine LeO.ite ?_ ?_
      | refine LeO.bind ?_ (fun _ => ?_)
    · intro y0 y1
      unfold impl_mostFlow.l1
      repeat' first
      | (with_reducible exact ih0 _ _ _ _)
      | (with_reducible exact ih1 _ _)
      | (with_reducible exact impl_comeTo.mono _ _ _)
      | (with_reducible exact impl_nextWay.mono _ _ _)
      | (with_reducible exact impl_pushed.mono _ _ _ _)
      | (with_reducible exact LeO.refl _)
      | (with_reducible exact LeO.none _)
      | (with_reducible refine LeO.ite ?_ ?_)
      | (with_reducible refine LeO.bind ?_ (fun _ => ?_))
      | exact ih0 _ _ _ _
      | exact ih1 _ _
      | exact impl_nextWay.mono _ _ _
      | exact impl_pushed.mono _ _ _ _
      | exact LeO.none _
      | refine LeO.ite ?_ ?_
      | refine LeO.bind ?_ (fun _ => ?_)
theorem impl_mostFlow.mono : ∀ a0 k, LeO (impl_mostFlow.f k a0) (impl_mostFlow.f (k + 1) a0) := by
  intro a0 k
  obtain ⟨ih0, ih1⟩ := impl_mostFlow.mono_l k
  unfold impl_mostFlow.f
  repeat' first
      | (with_reducible exact ih0 _ _ _ _)
      | (with_reducible exact ih1 _ _)
      | (with_reducible exact impl_comeTo.mono _ _ _)
      | (with_reducible exact impl_nextWay.mono _ _ _)
      | (with_reducible exact impl_pushed.mono _ _ _ _)
      | (with_reducible exact LeO.refl _)
      | (with_reducible exact LeO.none _)
      | (with_reducible refine LeO.ite ?_ ?_)
      | (with_reducible refine LeO.bind ?_ (fun _ => ?_))
      | exact ih0 _ _ _ _
      | exact ih1 _ _
      | exact impl_nextWay.mono _ _ _
      | exact impl_pushed.mono _ _ _ _
      | exact LeO.none _
      | refine LeO.ite ?_ ?_
      | refine LeO.bind ?_ (fun _ => ?_)
set_option maxHeartbeats 4000000 in
theorem impl_mostFlow.none_ (k : Nat) (A0 : Option Addr) (c0 : Nat) (l0 : List (List Int)) (A1 : Option Addr) (c1 : Nat) (l1 : List (List Int)) (s : List Int) (w : World) (hr0 : Kd.C (Kd.slice 3 (Kd.int .i64)) w A0 l0.length l0) (hc0 : l0.length ≤ c0) (hr1 : Kd.C (Kd.slice 3 (Kd.int .i64)) w A1 l1.length l1) (hc1 : l1.length ≤ c1) (h : impl_comeTo.f k l0 l1 = some s)
    (h0 : 0 ≤ wrap64 ((l0.length : Int) - 1)) (h1 : wrap64 ((l0.length : Int) - 1) < (s.length : Int)) (h2 : rd s (wrap64 ((l0.length : Int) - 1)) < 0) :
    Calls Try.prog 54 #[.slice A0 l0.length c0, .slice A1 l1.length c1] w fun e w' => e = .returned (.slice none 0 0) ∧ Below w.heap.size w w' := by
  have HC := Aside0.mk (impl_comeTo.calls k A0 c0 l0 A1 c1 l1 s w hr0 hc0 hr1 hc1 h)
  clear hr0 hc0 hr1 hc1 h
  have d0 : decide (0 ≤ wrap64 ((l0.length : Int) - 1)) = true := decide_eq_true h0
  have d1 : decide (wrap64 ((l0.length : Int) - 1) < (s.length : Int)) = true := decide_eq_true h1
  have d2 : decide (rd s (wrap64 ((l0.length : Int) - 1)) < 0) = true := decide_eq_true h2
  have H0 := Aside0.mk h0
  have H1 := Aside0.mk h1
  have p0 := eq_true h0
  have q0 := eq_true h1
  clear h0 h1 h2
  go_enter Try.func54, Try.ntmps54
  go_wp2_with (go_at_call 57; refine HC.out.mono ?_; rintro e w' ⟨v, rfl, hR, hb⟩; obtain ⟨Af, cf, rfl, hcl, hC⟩ := Kd.R_reads hR; obtain ⟨ad, ea, hx⟩ := Kd.at_int hC (wrap64 ((l0.length : Int) - 1)) H0.out H1.out; cases ea; have HB := Aside0.mk hb; clear hR hcl hC hb)
  go_ret
  exact ⟨rfl, HB.out⟩
set_option maxHeartbeats 8000000 in
set_option maxRecDepth 100000 in
theorem impl_mostFlow.calls (k : Nat) (A0 : Option Addr) (c0 : Nat) (l0 : List (List Int)) (r : List (List Int)) (w : World) (hr0 : Kd.C (Kd.slice 3 (Kd.int .i64)) w A0 l0.length l0) (hc0 : l0.length ≤ c0) (h : impl_mostFlow.f k l0 = some r) :
    Calls Try.prog 58 #[.slice A0 l0.length c0] w fun e w' => ∃ v0_ : Value, e = .returned (v0_) ∧ Kd.S (Kd.slice 3 (Kd.int .i64)) 31 w' w.heap.size (fun _ => True) v0_ r ∧ Below w.heap.size w w' := by
  have he_ : ∀ (W : World) (a : Option Addr) (n c : Nat), (binOp .eql 31 (.slice a n c) (.slice none 0 0)).run Try.prog W = .ok (.bool a.isNone) W := fun W a n c => by
    simp only [binOp]
    simp [Op.equal, Op.maxDepth, Lib.run_equalIn_slice_nil W 9999 31 3 a n c 0 0 Try.underlying31]
  have HR0 := Aside0.mk hr0
  have HC0 := Aside0.mk hc0
  clear hr0 hc0
  have HB := Aside0.mk (Below.refl w.heap.size w)
  have H : (impl_mostFlow.l0 k l0 (([] : List (List Int))) (l0.length : Int) 0) = some r := h
  clear h
  obtain ⟨y235, hy235⟩ : ∃ y_ : List (List Int), y_ = (([] : List (List Int))) := ⟨_, rfl⟩
  replace H : (impl_mostFlow.l0 k l0 y235 (l0.length : Int) 0) = some r := by first | (rw [hy235]; with_reducible exact H) | (have H2_ := (Option.bind_some _ _).symm.trans H; rw [hy235]; with_reducible exact H2_) | (have H2_ := (Option.bind_some _ _).symm.trans H; with_reducible exact H2_) | with_reducible exact H | (rw [hy235]; exact H) | exact H
  have Ny235 := Aside0.mk hy235
  clear hy235
  have H' := Aside0.mk H
  clear H
  go_enter Try.func58, Try.ntmps58
  go_wp2_with (first | ((with_reducible refine gate_dst (N := 5) rfl ?_); refine Kd.S_lit (Kd.slice 3 (Kd.int .i64)) _ 31 ?hg (N := 5) ?hd (xs := ([] : List (List Int))) (inner := []) (ok := fun _ => True) (okp := fun _ => True) ?hr ?hp (fun _ hk => hk) trivial (Below.refl _ _) (Nat.le_refl _) (by simp) ?_; (case hd => rfl); (case hg => rfl); (case hr => first | (go_simp; done) | (go_simp; rfl)); (case hp => exact (Reps.none _ _)); intro v236 w2 ho3 hb hg_ hnew_; clear hg_ hnew_; (first | rw [← Ny235.out] at ho3 | (simp only [Int.reduceToNat] at ho3; rw [← Ny235.out] at ho3)); have n0_ := Aside0.mk (Kd.S_lower ho3 (below_size (by repeat (first | (with_reducible first | exact HB.out | apply below_alloc | apply pw_below_drewN | apply below_drew1) | exact HB.out)))); have n1_ := Aside0.mk (below_step (by repeat (first | (with_reducible first | exact HB.out | apply below_alloc | apply pw_below_drewN | apply below_drew1) | exact HB.out)) hb); clear HB; have HO237 := n0_; have HB := n1_; clear n0_ n1_; clear hb ho3))
  go_loopg [3, 8] k (fun kq v3 v8 w' => ∃ (x3_1 : List (List Int)) (x8_1 : Int), v8 = .int .i64 x8_1 ∧ Aside0 (impl_mostFlow.l0 kq l0 x3_1 (l0.length : Int) x8_1 = some r) ∧ Aside0 (kq ≤ k) ∧ Aside0 (Kd.S (Kd.slice 3 (Kd.int .i64)) 31 w' w.heap.size (fun _ => True) v3 x3_1) ∧ Aside0 (Below w.heap.size w w'))
  case atStart => exact ⟨(y235), (0), (by first | rfl | (simp; done) | (simp [*]; done)), H', ⟨Nat.le_refl _⟩, ⟨by (with_reducible repeat (first | apply Kd.S_alloc | apply Kd.S_drewN | apply Kd.S_drew)); exact HO237.out⟩, ⟨by repeat (first | (with_reducible first | exact HB.out | apply below_alloc | apply pw_below_drewN | apply below_drew1) | exact HB.out)⟩⟩
  case round =>
    clear H'
    try clear p2
    obtain ⟨x3_1, x8_1, rfl, HA, HK1, HO_3, HB⟩ := hrel
    cases gk with
    | zero => exact absurd HA.out (by simp [impl_mostFlow.l0])
    | succ k1 =>
      have H := HA.out
      clear HA
      simp only [impl_mostFlow.l0] at H
      by_cases c4 : x8_1 < (l0.length : Int)
      · rw [if_pos c4] at H
        have c4b0 : decide (x8_1 < (l0.length : Int)) = true := decide_eq_true c4
        clear c4
        by_cases c5 : 0 ≤ (l0.length : Int)
        · rw [if_pos c5] at H
          have c5b0 := eq_true c5
          have c5b1 : decide (0 ≤ (l0.length : Int)) = true := decide_eq_true c5
          clear c5
          by_cases c6 : ((l0.length : Int) : Int).toNat ≤ 35184372088832
          · rw [if_pos c6] at H
            have c6b0 := eq_true c6
            have c6b1 : decide (((l0.length : Int) : Int).toNat ≤ 35184372088832) = true := decide_eq_true c6
            clear c6
            obtain ⟨y238, hy238⟩ : ∃ y_ : List Int, y_ = (List.replicate ((l0.length : Int) : Int).toNat 0) := ⟨_, rfl⟩
            replace H : (if x3_1.length < 5864062014805 then (impl_mostFlow.l0 k1 l0 (x3_1 ++ [y238]) (l0.length : Int) (wrap64 (x8_1 + 1))) else (none)) = some r := by first | (rw [hy238]; with_reducible exact H) | (have H2_ := (Option.bind_some _ _).symm.trans H; rw [hy238]; with_reducible exact H2_) | (have H2_ := (Option.bind_some _ _).symm.trans H; with_reducible exact H2_) | with_reducible exact H | (rw [hy238]; exact H) | exact H
            have Ny238 := Aside0.mk hy238
            clear hy238
            by_cases c7 : x3_1.length < 5864062014805
            · rw [if_pos c7] at H
              have LMc7 := Aside0.mk c7
              clear c7
              obtain ⟨y241, hy241⟩ : ∃ y_ : List (List Int), y_ = (x3_1 ++ [y238]) := ⟨_, rfl⟩
              replace H : (impl_mostFlow.l0 k1 l0 y241 (l0.length : Int) (wrap64 (x8_1 + 1))) = some r := by first | (rw [hy241]; with_reducible exact H) | (have H2_ := (Option.bind_some _ _).symm.trans H; rw [hy241]; with_reducible exact H2_) | (have H2_ := (Option.bind_some _ _).symm.trans H; with_reducible exact H2_) | with_reducible exact H | (rw [hy241]; exact H) | exact H
              have Ny241 := Aside0.mk hy241
              clear hy241
              have H' := Aside0.mk H
              clear H
              go_wp2_with (first | ((with_reducible refine gate_dst (N := 13) rfl ?_); refine Kd.R_make (Kd.int .i64) _ 3 rfl (N := 13) rfl 31 _ _ rfl (l0.length : Int) rfl rfl Try.underlying31 (.int .i64 0) 8 info3 rfl (by decide) (by omega) 0 (ok := fun _ => True) (okp := fun _ => True) rfl (fun _ hk => hk) trivial (of_decide_eq_true (by first | (with_reducible assumption) | assumption)) (Nat.le_trans (Nat.mul_le_mul_right _ (of_decide_eq_true (by first | (with_reducible assumption) | assumption) : (l0.length : Int).toNat ≤ 35184372088832)) (by omega)) (Below.refl _ _) (Nat.le_refl _) ?_; intro v239 w8 ho9 hb hg_ hnew_; clear hg_ hnew_; (first | rw [← Ny238.out] at ho9 | (simp only [Int.reduceToNat] at ho9; rw [← Ny238.out] at ho9)); have n0_ := Aside0.mk (Kd.S_elder' (by (with_reducible repeat (first | apply Kd.S_alloc | apply Kd.S_drewN | apply Kd.S_drew)); exact HO_3.out) (Kd.R_base ho9) hb); have n1_ := Aside0.mk (Kd.R_lower ho9 (below_size (by repeat (first | (with_reducible first | exact HB.out | apply below_alloc | apply pw_below_drewN | apply below_drew1) | exact HB.out)))); have n2_ := Aside0.mk (below_step (by repeat (first | (with_reducible first | exact HB.out | apply below_alloc | apply pw_below_drewN | apply below_drew1) | exact HB.out)) hb); clear HO_3; clear HB; have HO_3 := n0_; have HO240 := n1_; have HB := n2_; clear n0_ n1_ n2_; clear hb ho9; obtain ⟨Ao11, co11, eo11⟩ := Kd.R_slice HO240.out; subst eo11) | ((with_reducible refine gate_builtin (b := .append) (xs := #[.tmp 10, .tmp 14]) rfl ?_); at_builtin; refine Kd.S_append (Kd.slice 3 (Kd.int .i64)) (w0 := w) w.heap.size rfl (.tmp 10) (.tmp 14) 22 31 (.slice none 0 0) 24 rfl Try.underlying22 info31 rfl (by decide) (by omega) u3 x3_1 y238 [.slice Ao11 y238.length co11] (fun _ => True) (fun k_ => some k_ = (.slice Ao11 y238.length co11 : Value).ownBlock) rfl rfl ?aP (fun k_ hk_ => ((Kd.R_mono (ok' := fun k_ => ((fun _ => True)) k_ ∧ some k_ ≠ (u3 : Value).ownBlock) (Kd.R_apart' (HO240.out) (Kd.S_typed HO_3.out) (by decide)) (fun k_ hk => ⟨trivial, hk.2⟩))).1 k_ hk_.symm) ?aF ?aO ?aB ?aS ?aL ?_; (case aP => exact Kd.M_row (Kd.R_mono (Kd.R_tight rfl (Kd.R_mono (ok' := fun k_ => ((fun _ => True)) k_ ∧ some k_ ≠ (u3 : Value).ownBlock) (Kd.R_apart' (HO240.out) (Kd.S_typed HO_3.out) (by decide)) (fun k_ hk => ⟨trivial, hk.2⟩))) (fun _ h_ => h_))); (case aB => exact (by repeat (first | (with_reducible first | exact HB.out | apply below_alloc | apply pw_below_drewN | apply below_drew1) | exact HB.out))); (case aF => exact (fun _ _ => trivial)); (case aO => exact (by (with_reducible repeat (first | apply Kd.S_alloc | apply Kd.S_drewN | apply Kd.S_drew)); exact Kd.S_mono HO_3.out (fun k_ hk => ⟨trivial, fun e_ => hk.2 e_⟩))); (case aS => exact (below_size (by repeat (first | (with_reducible first | exact HB.out | apply below_alloc | apply pw_below_drewN | apply below_drew1) | exact HB.out)))); (case aL => have := LMc7.out; omega); intro v242 w10 ho hb hg hat; rw [← Ny241.out] at ho; have n0_ := Aside0.mk (hb); have n1_ := Aside0.mk (ho); clear HB; clear HO_3; clear HO240; have HB := n0_; have HO243 := n1_; clear n0_ n1_; clear ho hb hg hat))
              go_roundg k1
              case measure => have := HK1.out; omega
              case rel => exact ⟨(y241), (wrap64 (x8_1 + 1)), (by first | rfl | (simp; done) | (simp [*]; done)), H', ⟨by have := HK1.out; omega⟩, ⟨by (with_reducible repeat (first | apply Kd.S_alloc | apply Kd.S_drewN | apply Kd.S_drew)); exact HO243.out⟩, ⟨by repeat (first | (with_reducible first | exact HB.out | apply below_alloc | apply pw_below_drewN | apply below_drew1) | exact HB.out)⟩⟩
            · rw [if_neg c7] at H
              exact absurd H (by simp)
          · rw [if_neg c6] at H
            exact absurd H (by simp)
        · rw [if_neg c5] at H
          exact absurd H (by simp)
      · rw [if_neg c4] at H
        have c4b0 : decide (x8_1 < (l0.length : Int)) = false := decide_eq_false c4
        clear c4
        have H' := Aside0.mk H
        clear H
        go_wp2
        go_loopg [3] k1 (fun kq v3 w' => ∃ (x3_2 : List (List Int)), Aside0 (impl_mostFlow.l1 kq l0 x3_2 = some r) ∧ Aside0 (kq ≤ k1) ∧ Aside0 (Kd.S (Kd.slice 3 (Kd.int .i64)) 31 w' w.heap.size (fun _ => True) v3 x3_2) ∧ Aside0 (Below w.heap.size w w'))
        case atStart => exact ⟨(x3_1), H', ⟨Nat.le_refl _⟩, ⟨by (with_reducible repeat (first | apply Kd.S_alloc | apply Kd.S_drewN | apply Kd.S_drew)); exact HO_3.out⟩, ⟨by repeat (first | (with_reducible first | exact HB.out | apply below_alloc | apply pw_below_drewN | apply below_drew1) | exact HB.out)⟩⟩
        case round =>
          clear H'
          try clear p2
          try clear c4
          try clear c4b0
          try clear c5
          try clear c5b0
          try clear c5b1
          try clear c6
          try clear c6b0
          try clear c6b1
          try clear p6
          try clear c7
          try clear p2
          obtain ⟨x3_2, HA, HK2, HO_3, HB⟩ := hrel
          cases gk with
          | zero => exact absurd HA.out (by simp [impl_mostFlow.l1])
          | succ k2 =>
            have H := HA.out
            clear HA
            simp only [impl_mostFlow.l1] at H
            replace H := Option.bind_eq_some_iff.mp H
            obtain ⟨fr, A110, H⟩ := H
            split at H
            case isFalse => cases H
            case isTrue hl =>
            split at H
            case isTrue hneg =>
              obtain rfl := Option.some.inj H
              have HN := Aside0.mk (And.intro A110 (And.intro hl.1 (And.intro hl.2 hneg)))
              clear A110 hl hneg
              obtain ⟨Ao14, co14, eo14⟩ := Kd.S_slice HO_3.out
              subst eo14
              go_wp2_with (first | ((with_reducible refine gate_callee (f := 54) rfl ?_); refine goesL_ (some 19) rfl rfl Try.func54 (by kernel_rfl) rfl #[.slice A0 l0.length c0, .slice Ao14 x3_2.length co14] rfl (by (try simp only [List.map_toArray, List.map_cons, List.map_nil]); first | done | rfl | (simp only [List.length_drop, List.length_take]; rfl)) ?_; (with_reducible refine (impl_mostFlow.none_ k2 _ _ l0 _ _ x3_2 fr _ ?side1 ?side2 ?side3 ?side4 HN.out.1 HN.out.2.1 HN.out.2.2.1 HN.out.2.2.2).mono ?_); (case side1 => repeat (first | exact (Kd.C_below HR0.out HB.out) | (with_reducible refine Kd.C_alloc ?_ _) | (with_reducible refine Kd.C_drewN ?_ _) | (with_reducible refine Kd.C_drew ?_))); (case side2 => exact HC0.out); (case side3 => repeat (first | exact (Kd.S_reads' HO_3.out).2.2 | (with_reducible refine Kd.C_alloc ?_ _) | (with_reducible refine Kd.C_drewN ?_ _) | (with_reducible refine Kd.C_drew ?_))); (case side4 => exact (Kd.S_reads' HO_3.out).2.1); rintro e w15 ⟨rfl, hb⟩; have ho0 : Kd.R (Kd.int .i64) 3 w15 wr.heap.size (fun _ => True) (.slice none 0 0) [] := Kd.R_nil _ _ _ _ _; refine ⟨_, rfl, ?_⟩; have n0_ := Aside0.mk (Kd.S_elder' (by (with_reducible repeat (first | apply Kd.S_alloc | apply Kd.S_drewN | apply Kd.S_drew)); exact HO_3.out) (Kd.R_base ho0) hb); have n1_ := Aside0.mk (Kd.R_lower ho0 (below_size (by repeat (first | (with_reducible first | exact HB.out | apply below_alloc | apply pw_below_drewN | apply below_drew1) | exact HB.out)))); have n2_ := Aside0.mk (below_step (by repeat (first | (with_reducible first | exact HB.out | apply below_alloc | apply pw_below_drewN | apply below_drew1) | exact HB.out)) hb); clear HO_3; clear HB; have HO_3 := n0_; have HO246 := n1_; have HB := n2_; clear n0_ n1_ n2_; (try clear hb); (try clear hb2); (try clear hk); (try clear hi); (try clear ho0)))
              go_ret
              exact ⟨_, rfl, by (with_reducible repeat (first | apply Kd.S_alloc | apply Kd.S_drewN | apply Kd.S_drew)); exact Kd.S_mono HO_3.out (fun _ hk => trivial), by repeat (first | (with_reducible first | exact HB.out | apply below_alloc | apply pw_below_drewN | apply below_drew1) | exact HB.out)⟩
            case isFalse hneg =>
              clear A110 hl hneg
              replace H := Option.bind_eq_some_iff.mp H
              obtain ⟨t244, A120, H⟩ := H
              split at H
              case isTrue => cases H
              case isFalse hne =>
              have A12 := Aside0.mk A120
              have HP := Aside0.mk (List.length_pos_iff.2 hne)
              clear A120 hne
              replace H := Option.bind_eq_some_iff.mp H
              obtain ⟨⟨t247, t248⟩, A160, H⟩ := H
              replace H : (impl_mostFlow.l1 k2 l0 t247) = some r := H
              have A16 := Aside0.mk A160
              clear A160
              have H' := Aside0.mk H
              clear H
              obtain ⟨Ao17, co17, eo17⟩ := Kd.S_slice HO_3.out
              subst eo17
              go_wp2_with (first | ((with_reducible refine gate_callee (f := 54) rfl ?_); refine goesL_ (some 19) rfl rfl Try.func54 (by kernel_rfl) rfl #[.slice A0 l0.length c0, .slice Ao17 x3_2.length co17] rfl (by (try simp only [List.map_toArray, List.map_cons, List.map_nil]); first | done | rfl | (simp only [List.length_drop, List.length_take]; rfl)) ?_; (with_reducible refine (impl_nextWay.calls k2 _ _ l0 _ _ x3_2 t244 _ ?side1 ?side2 ?side3 ?side4 A12.out).mono ?_); (case side1 => repeat (first | exact (Kd.C_below HR0.out HB.out) | (with_reducible refine Kd.C_alloc ?_ _) | (with_reducible refine Kd.C_drewN ?_ _) | (with_reducible refine Kd.C_drew ?_))); (case side2 => exact HC0.out); (case side3 => repeat (first | exact (Kd.S_reads' HO_3.out).2.2 | (with_reducible refine Kd.C_alloc ?_ _) | (with_reducible refine Kd.C_drewN ?_ _) | (with_reducible refine Kd.C_drew ?_))); (case side4 => exact (Kd.S_reads' HO_3.out).2.1); rintro e w18 ⟨v245, rfl, ho0, hb⟩; refine ⟨_, rfl, ?_⟩; have n0_ := Aside0.mk (Kd.S_elder' (by (with_reducible repeat (first | apply Kd.S_alloc | apply Kd.S_drewN | apply Kd.S_drew)); exact HO_3.out) (Kd.R_base ho0) hb); have n1_ := Aside0.mk (Kd.R_lower ho0 (below_size (by repeat (first | (with_reducible first | exact HB.out | apply below_alloc | apply pw_below_drewN | apply below_drew1) | exact HB.out)))); have n2_ := Aside0.mk (below_step (by repeat (first | (with_reducible first | exact HB.out | apply below_alloc | apply pw_below_drewN | apply below_drew1) | exact HB.out)) hb); clear HO_3; clear HB; have HO_3 := n0_; have HO246 := n1_; have HB := n2_; clear n0_ n1_ n2_; (try clear hb); (try clear hb2); (try clear hk); (try clear hi); (try clear ho0); obtain ⟨gw_, co19, eo19, _, _, _⟩ := Kd.R_form HO246.out HP.out; subst eo19) | ((with_reducible refine gate_callee (f := 52) rfl ?_); refine goesL_ (some 27) rfl rfl Try.func52 (by kernel_rfl) rfl #[.slice A0 l0.length c0, .slice Ao17 x3_2.length co17, .slice (some ⟨gw_, 0, none⟩) t244.length co19] rfl (by (try simp only [List.map_toArray, List.map_cons, List.map_nil]); first | done | rfl | (simp only [List.length_drop, List.length_take]; rfl)) ?_; (with_reducible refine (impl_pushed.calls k2 _ _ l0 _ _ x3_2 _ _ t244 t247 t248 _ ?side1 ?side2 ?side3 ?side4 ?side5 ?side6 A16.out).mono ?_); (case side1 => repeat (first | exact (Kd.C_below HR0.out HB.out) | (with_reducible refine Kd.C_alloc ?_ _) | (with_reducible refine Kd.C_drewN ?_ _) | (with_reducible refine Kd.C_drew ?_))); (case side2 => exact HC0.out); (case side3 => repeat (first | exact (Kd.S_reads' HO_3.out).2.2 | (with_reducible refine Kd.C_alloc ?_ _) | (with_reducible refine Kd.C_drewN ?_ _) | (with_reducible refine Kd.C_drew ?_))); (case side4 => exact (Kd.S_reads' HO_3.out).2.1); (case side5 => repeat (first | exact (Kd.R_reads' HO246.out).2.2 | (with_reducible refine Kd.C_alloc ?_ _) | (with_reducible refine Kd.C_drewN ?_ _) | (with_reducible refine Kd.C_drew ?_))); (case side6 => exact (Kd.R_reads' HO246.out).2.1); rintro e w20 ⟨v249, rfl, ho0, hb⟩; refine ⟨_, rfl, ?_⟩; have n0_ := Aside0.mk (Kd.S_elder' (by (with_reducible repeat (first | apply Kd.S_alloc | apply Kd.S_drewN | apply Kd.S_drew)); exact HO_3.out) (Kd.S_base ho0) hb); have n1_ := Aside0.mk (Kd.R_below (by (with_reducible repeat (first | apply Kd.R_alloc | apply Kd.R_drewN | apply Kd.R_drew)); exact HO246.out) hb); have n2_ := Aside0.mk (Kd.S_lower (Kd.S_new' (Kd.S_new' ho0 (Kd.S_lt (by (with_reducible repeat (first | apply Kd.S_alloc | apply Kd.S_drewN | apply Kd.S_drew)); exact HO_3.out))) (Kd.R_lt (by (with_reducible repeat (first | apply Kd.R_alloc | apply Kd.R_drewN | apply Kd.R_drew)); exact HO246.out))) (below_size (by repeat (first | (with_reducible first | exact HB.out | apply below_alloc | apply pw_below_drewN | apply below_drew1) | exact HB.out)))); have n3_ := Aside0.mk (below_step (by repeat (first | (with_reducible first | exact HB.out | apply below_alloc | apply pw_below_drewN | apply below_drew1) | exact HB.out)) hb); clear HO_3; clear HO246; clear HB; have HO_3 := n0_; have HO246 := n1_; have HO250 := n2_; have HB := n3_; clear n0_ n1_ n2_ n3_; (try clear hb); (try clear hb2); (try clear hk); (try clear hi); (try clear ho0)))
              go_roundg k2
              case measure => have := HK1.out; have := HK2.out; omega
              case rel => exact ⟨(t247), H', ⟨by have := HK1.out; have := HK2.out; omega⟩, ⟨by (with_reducible repeat (first | apply Kd.S_alloc | apply Kd.S_drewN | apply Kd.S_drew)); exact Kd.S_mono HO250.out (fun _ hk => trivial)⟩, ⟨by repeat (first | (with_reducible first | exact HB.out | apply below_alloc | apply pw_below_drewN | apply below_drew1) | exact HB.out)⟩⟩

/-! ### impl_MostFlow: function 35 -/
def impl_MostFlow.f (k : Nat) (l0 : List (List Int)) : Option ((List (List Int)) × Int × Bool) := (impl_GoodNet.f k l0).bind fun t230 => (if t230 = true then ((impl_mostFlow.f k l0).bind fun t231 => ((impl_value.f k t231 0).bind fun t234 => (some (t231, t234, true)))) else (some (([] : List (List Int)), 0, false)))
theorem impl_MostFlow.mono : ∀ a0 k, LeO (impl_MostFlow.f k a0) (impl_MostFlow.f (k + 1) a0) := by
  intro a0 k
  unfold impl_MostFlow.f
  repeat' first
      | (with_reducible exact impl_GoodNet.mono _ _)
      | (with_reducible exact impl_mostFlow.mono _ _)
      | (with_reducible exact impl_value.mono _ _ _)
      | (with_reducible exact LeO.refl _)
      | (with_reducible exact LeO.none _)
      | (with_reducible refine LeO.ite ?_ ?_)
      | (with_reducible refine LeO.bind ?_ (fun _ => ?_))
      | exact impl_GoodNet.mono _ _
      | exact impl_mostFlow.mono _ _
      | exact impl_value.mono _ _ _
      | exact LeO.none _
      | refine LeO.ite ?_ ?_
      | refine LeO.bind ?_ (fun _ => ?_)
set_option maxHeartbeats 8000000 in
set_option maxRecDepth 100000 in
theorem impl_MostFlow.calls (k : Nat) (A0 : Option Addr) (c0 : Nat) (l0 : List (List Int)) (r1 : List (List Int)) (r2 : Int) (r3 : Bool) (w : World) (hr0 : Kd.C (Kd.slice 3 (Kd.int .i64)) w A0 l0.length l0) (hc0 : l0.length ≤ c0) (h : impl_MostFlow.f k l0 = some (r1, r2, r3)) :
    Calls Try.prog 35 #[.slice A0 l0.length c0] w fun e w' => ∃ v0_ : Value, e = .returned (.tuple #[v0_, .int .i64 r2, .bool r3]) ∧ Kd.S (Kd.slice 3 (Kd.int .i64)) 31 w' w.heap.size (fun _ => True) v0_ r1 ∧ Below w.heap.size w w' := by
  have HR0 := Aside0.mk hr0
  have HC0 := Aside0.mk hc0
  clear hr0 hc0
  have HB := Aside0.mk (Below.refl w.heap.size w)
  have H : ((impl_GoodNet.f k l0).bind fun t230 => (if t230 = true then ((impl_mostFlow.f k l0).bind fun t231 => ((impl_value.f k t231 0).bind fun t234 => (some (t231, t234, true)))) else (some (([] : List (List Int)), 0, false)))) = some (r1, r2, r3) := h
  clear h
  replace H := Option.bind_eq_some_iff.mp H
  obtain ⟨t230, A20, H⟩ := H
  replace H : (if t230 = true then ((impl_mostFlow.f k l0).bind fun t231 => ((impl_value.f k t231 0).bind fun t234 => (some (t231, t234, true)))) else (some (([] : List (List Int)), 0, false))) = some (r1, r2, r3) := H
  have A2 := Aside0.mk A20
  clear A20
  by_cases c3 : t230 = true
  · subst c3
    have H1 : ((impl_mostFlow.f k l0).bind fun t231 => ((impl_value.f k t231 0).bind fun t234 => (some (t231, t234, true)))) = some (r1, r2, r3) := by rw [if_pos rfl] at H; exact H
    clear H
    have H := H1
    clear H1
    replace H := Option.bind_eq_some_iff.mp H
    obtain ⟨t231, A40, H⟩ := H
    replace H : ((impl_value.f k t231 0).bind fun t234 => (some (t231, t234, true))) = some (r1, r2, r3) := H
    have A4 := Aside0.mk A40
    clear A40
    replace H := Option.bind_eq_some_iff.mp H
    obtain ⟨t234, A50, H⟩ := H
    replace H : (some (t231, t234, true)) = some (r1, r2, r3) := H
    have A5 := Aside0.mk A50
    clear A50
    simp only [Option.some.injEq, Prod.mk.injEq] at H
    obtain ⟨rfl, rfl, rfl⟩ := H
    go_enter Try.func35, Try.ntmps35
    go_wp2_with (first | ((with_reducible refine gate_callee (f := 14) rfl ?_); refine goesL_ (some 7) rfl rfl Try.func14 (by kernel_rfl) rfl #[.slice A0 l0.length c0] rfl (by (try simp only [List.map_toArray, List.map_cons, List.map_nil]); first | done | rfl | (simp only [List.length_drop, List.length_take]; rfl)) ?_; (with_reducible refine (impl_GoodNet.calls k _ _ l0 true _ ?side1 ?side2 A2.out).mono ?_); (case side1 => repeat (first | exact HR0.out | (with_reducible refine Kd.C_alloc ?_ _) | (with_reducible refine Kd.C_drewN ?_ _) | (with_reducible refine Kd.C_drew ?_))); (case side2 => exact HC0.out); rintro e w6 ⟨rfl, hb⟩; refine ⟨_, rfl, ?_⟩; have n0_ := Aside0.mk (below_step (by repeat (first | (with_reducible first | exact HB.out | apply below_alloc | apply pw_below_drewN | apply below_drew1) | exact HB.out)) hb); clear HB; have HB := n0_; clear n0_; (try clear hb); (try clear hb2); (try clear hk); (try clear hi)) | ((with_reducible refine gate_callee (f := 58) rfl ?_); refine goesL_ (some 10) rfl rfl Try.func58 (by kernel_rfl) rfl #[.slice A0 l0.length c0] rfl (by (try simp only [List.map_toArray, List.map_cons, List.map_nil]); first | done | rfl | (simp only [List.length_drop, List.length_take]; rfl)) ?_; (with_reducible refine (impl_mostFlow.calls k _ _ l0 t231 _ ?side1 ?side2 A4.out).mono ?_); (case side1 => repeat (first | exact (Kd.C_below HR0.out HB.out) | (with_reducible refine Kd.C_alloc ?_ _) | (with_reducible refine Kd.C_drewN ?_ _) | (with_reducible refine Kd.C_drew ?_))); (case side2 => exact HC0.out); rintro e w7 ⟨v232, rfl, ho0, hb⟩; refine ⟨_, rfl, ?_⟩; have n0_ := Aside0.mk (Kd.S_lower ho0 (below_size (by repeat (first | (with_reducible first | exact HB.out | apply below_alloc | apply pw_below_drewN | apply below_drew1) | exact HB.out)))); have n1_ := Aside0.mk (below_step (by repeat (first | (with_reducible first | exact HB.out | apply below_alloc | apply pw_below_drewN | apply below_drew1) | exact HB.out)) hb); clear HB; have HO233 := n0_; have HB := n1_; clear n0_ n1_; (try clear hb); (try clear hb2); (try clear hk); (try clear hi); (try clear ho0); obtain ⟨Ao8, co8, eo8⟩ := Kd.S_slice HO233.out; subst eo8) | ((with_reducible refine gate_callee (f := 40) rfl ?_); refine goesL_ (some 13) rfl rfl Try.func40 (by kernel_rfl) rfl #[.slice Ao8 t231.length co8, .int .i64 0] rfl (by (try simp only [List.map_toArray, List.map_cons, List.map_nil]); first | done | rfl | (simp only [List.length_drop, List.length_take]; rfl)) ?_; (with_reducible refine (impl_value.calls k _ _ t231 0 t234 _ ?side1 ?side2 A5.out).mono ?_); (case side1 => repeat (first | exact (Kd.S_reads' HO233.out).2.2 | (with_reducible refine Kd.C_alloc ?_ _) | (with_reducible refine Kd.C_drewN ?_ _) | (with_reducible refine Kd.C_drew ?_))); (case side2 => exact (Kd.S_reads' HO233.out).2.1); rintro e w' ⟨rfl, ⟨nd, rfl⟩⟩; refine ⟨_, rfl, ?_⟩))
    go_ret3
    exact ⟨_, by first | rfl | (simp [errW_none, errW_some] <;> rfl) | (simp [*, errW_none, errW_some] <;> rfl), by (with_reducible repeat (first | apply Kd.S_alloc | apply Kd.S_drewN | apply Kd.S_drew)); exact HO233.out, by repeat (first | (with_reducible first | exact HB.out | apply below_alloc | apply pw_below_drewN | apply below_drew1) | exact HB.out)⟩
  · replace c3 := Bool.eq_false_iff.mpr c3
    subst c3
    have H1 : (some (([] : List (List Int)), 0, false)) = some (r1, r2, r3) := by rw [if_neg (show ¬ (false = true) by decide)] at H; exact H
    clear H
    have H := H1
    clear H1
    simp only [Option.some.injEq, Prod.mk.injEq] at H
    obtain ⟨rfl, rfl, rfl⟩ := H
    go_enter Try.func35, Try.ntmps35
    go_wp2_with (first | ((with_reducible refine gate_callee (f := 14) rfl ?_); refine goesL_ (some 7) rfl rfl Try.func14 (by kernel_rfl) rfl #[.slice A0 l0.length c0] rfl (by (try simp only [List.map_toArray, List.map_cons, List.map_nil]); first | done | rfl | (simp only [List.length_drop, List.length_take]; rfl)) ?_; (with_reducible refine (impl_GoodNet.calls k _ _ l0 false _ ?side1 ?side2 A2.out).mono ?_); (case side1 => repeat (first | exact HR0.out | (with_reducible refine Kd.C_alloc ?_ _) | (with_reducible refine Kd.C_drewN ?_ _) | (with_reducible refine Kd.C_drew ?_))); (case side2 => exact HC0.out); rintro e w9 ⟨rfl, hb⟩; refine ⟨_, rfl, ?_⟩; have n0_ := Aside0.mk (below_step (by repeat (first | (with_reducible first | exact HB.out | apply below_alloc | apply pw_below_drewN | apply below_drew1) | exact HB.out)) hb); clear HB; have HB := n0_; clear n0_; (try clear hb); (try clear hb2); (try clear hk); (try clear hi)))
    go_ret3
    exact ⟨_, by first | rfl | (simp [errW_none, errW_some] <;> rfl) | (simp [*, errW_none, errW_some] <;> rfl), by first | exact Kd.S_nil _ _ _ _ _ | exact Kd.N_nil _ _ _ _ _ | exact Kd.V_nil _ _ _ _ _ | exact Kd.Q_nil _ _ _ _ _ | exact Kd.R_nil _ _ _ _ _, by repeat (first | (with_reducible first | exact HB.out | apply below_alloc | apply pw_below_drewN | apply below_drew1) | exact HB.out)⟩

/-! ### laws_FnExactMostFlow: function 10 -/
def laws_FnExactMostFlow.f (k : Nat) (l0 : List (List Int)) : Option (Bool) := (laws_szIntSS.f k l0 1048576).bind fun t1 => (if t1 < 0 then some true else ((laws_toIntSS.f k l0).bind fun x9 => ((spec_MostFlow.f k x9).bind fun p => match p with | (x16, x17, x18) => (if impl_MostFlow.f k x9 = some (x16, x17, x18) then (if laws_eqIntSS.f k x16 x16 = some true then (if laws_eqIntSS.f k x9 x9 = some true then ((laws_markIntSS.g x9 1).bind fun p => match p with | (t38, x39) => (if 0 ≤ t38 then ((laws_markIntSS.g x16 1).bind fun p => match p with | (t40, x41) => (if laws_heldIntSS.f k x41 1 = some t40 then (if 0 ≤ t40 then (some true) else none) else none)) else none)) else none) else none) else none))))
set_option maxHeartbeats 16000000 in
set_option maxRecDepth 100000 in
theorem laws_FnExactMostFlow.calls (k : Nat) (A0 : Option Addr) (c0 : Nat) (l0 : List (List Int)) (r : Bool) (w : World) (hr0 : Kd.C (Kd.slice 3 (Kd.int .i64)) w A0 l0.length l0) (hc0 : l0.length ≤ c0) (h : laws_FnExactMostFlow.f k l0 = some r) :
    Calls Try.prog 10 #[.slice A0 l0.length c0] w fun e w' => e = .returned (.bool r) ∧ Below w.heap.size w w' := by
  have HR0 := Aside0.mk hr0
  have HL0 := Aside0.mk hc0
  clear hr0 hc0
  unfold laws_FnExactMostFlow.f at h
  replace h := Option.bind_eq_some_iff.mp h
  obtain ⟨t1, H550, h⟩ := h
  have H55 := Aside0.mk H550
  clear H550
  try dsimp only at h
  by_cases c56 : t1 < 0
  · rw [if_pos c56] at h
    obtain rfl := Option.some.inj h
    clear h
    have d1 : decide (t1 < 0) = true := decide_eq_true c56
    clear c56
    go_enter Try.func10, Try.ntmps10
    have HB := Aside0.mk (Below.refl w.heap.size w)
    have HN := Aside0.mk (Nat.le_refl w.heap.size)
    go_wp2_with fail
    go_at_call 11
    refine (laws_szIntSS.calls k A0 c0 l0 1048576 t1 _ (Kd.C_below HR0.out (by repeat (first | exact HB.out | apply pw_below_drewN | apply below_drew1))) HL0.out H55.out).mono ?_
    rintro e w_57 ⟨rfl, ⟨nd58, rfl⟩⟩
    go_wp2_with fail
    go_ret
    exact ⟨rfl, (by repeat (first | exact HB.out | apply pw_below_drewN | apply below_drew1))⟩
  rw [if_neg c56] at h
  have d59 : decide (t1 < 0) = false := decide_eq_false c56
  clear c56
  replace h := Option.bind_eq_some_iff.mp h
  obtain ⟨x9, H600, h⟩ := h
  have H60 := Aside0.mk H600
  clear H600
  try dsimp only at h
  replace h := Option.bind_eq_some_iff.mp h
  obtain ⟨⟨x16, x17, x18⟩, H610, h⟩ := h
  have H61 := Aside0.mk H610
  clear H610
  try dsimp only at h
  obtain ⟨H620, h⟩ := need_of h
  have H62 := Aside0.mk H620
  clear H620
  obtain ⟨H630, h⟩ := need_of h
  have H63 := Aside0.mk H630
  clear H630
  obtain ⟨H640, h⟩ := need_of h
  have H64 := Aside0.mk H640
  clear H640
  replace h := Option.bind_eq_some_iff.mp h
  obtain ⟨⟨t38, x39⟩, H650, h⟩ := h
  have H65 := Aside0.mk H650
  clear H650
  try dsimp only at h
  obtain ⟨H660, h⟩ := need_of h
  have H66 := Aside0.mk H660
  clear H660
  replace h := Option.bind_eq_some_iff.mp h
  obtain ⟨⟨t40, x41⟩, H670, h⟩ := h
  have H67 := Aside0.mk H670
  clear H670
  try dsimp only at h
  obtain ⟨H680, h⟩ := need_of h
  have H68 := Aside0.mk H680
  clear H680
  obtain ⟨H690, h⟩ := need_of h
  have H69 := Aside0.mk H690
  clear H690
  obtain rfl := Option.some.inj h
  clear h
  go_enter Try.func10, Try.ntmps10
  have HB := Aside0.mk (Below.refl w.heap.size w)
  have HN := Aside0.mk (Nat.le_refl w.heap.size)
  go_wp2_with fail
  go_at_call 11
  refine (laws_szIntSS.calls k A0 c0 l0 1048576 t1 _ (Kd.C_below HR0.out (by repeat (first | exact HB.out | apply pw_below_drewN | apply below_drew1))) HL0.out H55.out).mono ?_
  rintro e w_70 ⟨rfl, ⟨nd71, rfl⟩⟩
  go_wp2_with fail
  go_at_call 13
  refine (laws_toIntSS.calls k A0 c0 l0 x9 _ (Kd.C_below HR0.out (by repeat (first | exact HB.out | apply pw_below_drewN | apply below_drew1))) HL0.out H60.out).mono ?_
  rintro e w1 ⟨v5, rfl, hF6, hb⟩
  have HB2 := Aside0.mk (below_next (N := w.heap.size) (by repeat (first | exact HB.out | apply pw_below_drewN | apply below_drew1)) (by exact HN.out) (by omega) hb)
  obtain ⟨lo72, hi73, ho, hg⟩ := fresh_pts (N := w.heap.size) hb (by exact HN.out)
  have O74 := Aside0.mk (show w.heap.size ≤ lo72 ∧ lo72 ≤ hi73 from ⟨ho.1, ho.2.1⟩)
  have hF6b := S_in hF6 hg (B := w.heap.size) (by have := O74.out; omega)
  obtain ⟨A3, c4, rfl, hle, hC⟩ := Kd.S_reads hF6b
  have HC7 := Aside0.mk hC
  have HL8 := Aside0.mk hle
  clear hle hC
  have F6 := Aside0.mk (show Kd.S (Kd.slice 3 (Kd.int .i64)) 31 w1 w.heap.size (fun k_ => (lo72 ≤ k_ ∧ k_ < hi73) ∧ True) (.slice A3 x9.length c4) x9 from hF6b)
  clear hF6 hF6b
  replace HN := Aside0.mk (show hi73 ≤ w1.heap.size from ho.2.2)
  clear ho hg
  replace HB := HB2
  clear HB2 hb
  go_wp2_with fail
  go_at_call 34
  refine (spec_MostFlow.calls k A3 c4 x9 x16 x17 x18 _ (by (with_reducible repeat (first | apply Kd.C_drewN | apply Kd.C_drew)); exact HC7.out) HL8.out H61.out).mono ?_
  rintro e w2 ⟨v12, rfl, hF13, hb⟩
  have HB2 := Aside0.mk (below_next (N := hi73) (by repeat (first | exact HB.out | apply pw_below_drewN | apply below_drew1)) (by exact HN.out) (by have := O74.out; omega) hb)
  replace F6 := Aside0.mk (show Kd.S (Kd.slice 3 (Kd.int .i64)) 31 w2 w.heap.size (fun k_ => (lo72 ≤ k_ ∧ k_ < hi73) ∧ True) (.slice A3 x9.length c4) x9 from Kd.S_below (by (with_reducible repeat (first | apply Kd.S_drewN | apply Kd.S_drew)); exact F6.out) hb)
  replace HC7 := Aside0.mk (show Kd.C (Kd.slice 3 (Kd.int .i64)) w2 A3 x9.length x9 from Kd.C_below (by (with_reducible repeat (first | apply Kd.C_drewN | apply Kd.C_drew)); exact HC7.out) hb)
  obtain ⟨lo75, hi76, ho, hg⟩ := fresh_pts (N := hi73) hb (by exact HN.out)
  have O77 := Aside0.mk (show hi73 ≤ lo75 ∧ lo75 ≤ hi76 from ⟨ho.1, ho.2.1⟩)
  have hF13b := S_in hF13 hg (B := w.heap.size) (by have := O74.out; have := O77.out; omega)
  obtain ⟨A10, c11, rfl, hle, hC⟩ := Kd.S_reads hF13b
  have HC14 := Aside0.mk hC
  have HL15 := Aside0.mk hle
  clear hle hC
  have F13 := Aside0.mk (show Kd.S (Kd.slice 3 (Kd.int .i64)) 31 w2 w.heap.size (fun k_ => (lo75 ≤ k_ ∧ k_ < hi76) ∧ True) (.slice A10 x16.length c11) x16 from hF13b)
  clear hF13 hF13b
  replace HN := Aside0.mk (show hi76 ≤ w2.heap.size from ho.2.2)
  clear ho hg
  replace HB := HB2
  clear HB2 hb
  clear F6 HC7
  go_wp2_with fail
  go_at_call 13
  refine (laws_toIntSS.calls k A0 c0 l0 x9 _ (Kd.C_below HR0.out (by repeat (first | exact HB.out | apply pw_below_drewN | apply below_drew1))) HL0.out H60.out).mono ?_
  rintro e w3 ⟨v21, rfl, hF22, hb⟩
  have HB2 := Aside0.mk (below_next (N := hi76) (by repeat (first | exact HB.out | apply pw_below_drewN | apply below_drew1)) (by exact HN.out) (by have := O74.out; have := O77.out; omega) hb)
  replace F13 := Aside0.mk (show Kd.S (Kd.slice 3 (Kd.int .i64)) 31 w3 w.heap.size (fun k_ => (lo75 ≤ k_ ∧ k_ < hi76) ∧ True) (.slice A10 x16.length c11) x16 from Kd.S_below (by (with_reducible repeat (first | apply Kd.S_drewN | apply Kd.S_drew)); exact F13.out) hb)
  replace HC14 := Aside0.mk (show Kd.C (Kd.slice 3 (Kd.int .i64)) w3 A10 x16.length x16 from Kd.C_below (by (with_reducible repeat (first | apply Kd.C_drewN | apply Kd.C_drew)); exact HC14.out) hb)
  obtain ⟨lo78, hi79, ho, hg⟩ := fresh_pts (N := hi76) hb (by exact HN.out)
  have O80 := Aside0.mk (show hi76 ≤ lo78 ∧ lo78 ≤ hi79 from ⟨ho.1, ho.2.1⟩)
  have hF22b := S_in hF22 hg (B := w.heap.size) (by have := O74.out; have := O77.out; have := O80.out; omega)
  obtain ⟨A19, c20, rfl, hle, hC⟩ := Kd.S_reads hF22b
  have HC23 := Aside0.mk hC
  have HL24 := Aside0.mk hle
  clear hle hC
  have F22 := Aside0.mk (show Kd.S (Kd.slice 3 (Kd.int .i64)) 31 w3 w.heap.size (fun k_ => (lo78 ≤ k_ ∧ k_ < hi79) ∧ True) (.slice A19 x9.length c20) x9 from hF22b)
  clear hF22 hF22b
  replace HN := Aside0.mk (show hi79 ≤ w3.heap.size from ho.2.2)
  clear ho hg
  replace HB := HB2
  clear HB2 hb
  go_wp2_with fail
  go_at_call 35
  refine (impl_MostFlow.calls k A19 c20 x9 x16 x17 x18 _ (by (with_reducible repeat (first | apply Kd.C_drewN | apply Kd.C_drew)); exact HC23.out) HL24.out H62.out).mono ?_
  rintro e w4 ⟨v27, rfl, hF28, hb⟩
  have HB2 := Aside0.mk (below_next (N := hi79) (by repeat (first | exact HB.out | apply pw_below_drewN | apply below_drew1)) (by exact HN.out) (by have := O74.out; have := O77.out; have := O80.out; omega) hb)
  replace F13 := Aside0.mk (show Kd.S (Kd.slice 3 (Kd.int .i64)) 31 w4 w.heap.size (fun k_ => (lo75 ≤ k_ ∧ k_ < hi76) ∧ True) (.slice A10 x16.length c11) x16 from Kd.S_below (by (with_reducible repeat (first | apply Kd.S_drewN | apply Kd.S_drew)); exact F13.out) hb)
  replace HC14 := Aside0.mk (show Kd.C (Kd.slice 3 (Kd.int .i64)) w4 A10 x16.length x16 from Kd.C_below (by (with_reducible repeat (first | apply Kd.C_drewN | apply Kd.C_drew)); exact HC14.out) hb)
  replace F22 := Aside0.mk (show Kd.S (Kd.slice 3 (Kd.int .i64)) 31 w4 w.heap.size (fun k_ => (lo78 ≤ k_ ∧ k_ < hi79) ∧ True) (.slice A19 x9.length c20) x9 from Kd.S_below (by (with_reducible repeat (first | apply Kd.S_drewN | apply Kd.S_drew)); exact F22.out) hb)
  replace HC23 := Aside0.mk (show Kd.C (Kd.slice 3 (Kd.int .i64)) w4 A19 x9.length x9 from Kd.C_below (by (with_reducible repeat (first | apply Kd.C_drewN | apply Kd.C_drew)); exact HC23.out) hb)
  obtain ⟨lo81, hi82, ho, hg⟩ := fresh_pts (N := hi79) hb (by exact HN.out)
  have O83 := Aside0.mk (show hi79 ≤ lo81 ∧ lo81 ≤ hi82 from ⟨ho.1, ho.2.1⟩)
  have hF28b := S_in hF28 hg (B := w.heap.size) (by have := O74.out; have := O77.out; have := O80.out; have := O83.out; omega)
  obtain ⟨A25, c26, rfl, hle, hC⟩ := Kd.S_reads hF28b
  have HC29 := Aside0.mk hC
  have HL30 := Aside0.mk hle
  clear hle hC
  have F28 := Aside0.mk (show Kd.S (Kd.slice 3 (Kd.int .i64)) 31 w4 w.heap.size (fun k_ => (lo81 ≤ k_ ∧ k_ < hi82) ∧ True) (.slice A25 x16.length c26) x16 from hF28b)
  clear hF28 hF28b
  replace HN := Aside0.mk (show hi82 ≤ w4.heap.size from ho.2.2)
  clear ho hg
  replace HB := HB2
  clear HB2 hb
  go_wp2_with fail
  go_at_call 15
  refine (laws_eqIntSS.calls k A25 c26 x16 A10 c11 x16 true _ (by (with_reducible repeat (first | apply Kd.C_drewN | apply Kd.C_drew)); exact HC29.out) HL30.out (by (with_reducible repeat (first | apply Kd.C_drewN | apply Kd.C_drew)); exact HC14.out) HL15.out H63.out).mono ?_
  rintro e w_84 ⟨rfl, ⟨nd85, rfl⟩⟩
  go_wp2_with fail
  go_at_call 13
  refine (laws_toIntSS.calls k A0 c0 l0 x9 _ (Kd.C_below HR0.out (by repeat (first | exact HB.out | apply pw_below_drewN | apply below_drew1))) HL0.out H60.out).mono ?_
  rintro e w5 ⟨v34, rfl, hF35, hb⟩
  have HB2 := Aside0.mk (below_next (N := hi82) (by repeat (first | exact HB.out | apply pw_below_drewN | apply below_drew1)) (by exact HN.out) (by have := O74.out; have := O77.out; have := O80.out; have := O83.out; omega) hb)
  replace F13 := Aside0.mk (show Kd.S (Kd.slice 3 (Kd.int .i64)) 31 w5 w.heap.size (fun k_ => (lo75 ≤ k_ ∧ k_ < hi76) ∧ True) (.slice A10 x16.length c11) x16 from Kd.S_below (by (with_reducible repeat (first | apply Kd.S_drewN | apply Kd.S_drew)); exact F13.out) hb)
  replace HC14 := Aside0.mk (show Kd.C (Kd.slice 3 (Kd.int .i64)) w5 A10 x16.length x16 from Kd.C_below (by (with_reducible repeat (first | apply Kd.C_drewN | apply Kd.C_drew)); exact HC14.out) hb)
  replace F22 := Aside0.mk (show Kd.S (Kd.slice 3 (Kd.int .i64)) 31 w5 w.heap.size (fun k_ => (lo78 ≤ k_ ∧ k_ < hi79) ∧ True) (.slice A19 x9.length c20) x9 from Kd.S_below (by (with_reducible repeat (first | apply Kd.S_drewN | apply Kd.S_drew)); exact F22.out) hb)
  replace HC23 := Aside0.mk (show Kd.C (Kd.slice 3 (Kd.int .i64)) w5 A19 x9.length x9 from Kd.C_below (by (with_reducible repeat (first | apply Kd.C_drewN | apply Kd.C_drew)); exact HC23.out) hb)
  replace F28 := Aside0.mk (show Kd.S (Kd.slice 3 (Kd.int .i64)) 31 w5 w.heap.size (fun k_ => (lo81 ≤ k_ ∧ k_ < hi82) ∧ True) (.slice A25 x16.length c26) x16 from Kd.S_below (by (with_reducible repeat (first | apply Kd.S_drewN | apply Kd.S_drew)); exact F28.out) hb)
  replace HC29 := Aside0.mk (show Kd.C (Kd.slice 3 (Kd.int .i64)) w5 A25 x16.length x16 from Kd.C_below (by (with_reducible repeat (first | apply Kd.C_drewN | apply Kd.C_drew)); exact HC29.out) hb)
  obtain ⟨lo86, hi87, ho, hg⟩ := fresh_pts (N := hi82) hb (by exact HN.out)
  have O88 := Aside0.mk (show hi82 ≤ lo86 ∧ lo86 ≤ hi87 from ⟨ho.1, ho.2.1⟩)
  have hF35b := S_in hF35 hg (B := w.heap.size) (by have := O74.out; have := O77.out; have := O80.out; have := O83.out; have := O88.out; omega)
  obtain ⟨A32, c33, rfl, hle, hC⟩ := Kd.S_reads hF35b
  have HC36 := Aside0.mk hC
  have HL37 := Aside0.mk hle
  clear hle hC
  have F35 := Aside0.mk (show Kd.S (Kd.slice 3 (Kd.int .i64)) 31 w5 w.heap.size (fun k_ => (lo86 ≤ k_ ∧ k_ < hi87) ∧ True) (.slice A32 x9.length c33) x9 from hF35b)
  clear hF35 hF35b
  replace HN := Aside0.mk (show hi87 ≤ w5.heap.size from ho.2.2)
  clear ho hg
  replace HB := HB2
  clear HB2 hb
  go_wp2_with fail
  go_at_call 15
  refine (laws_eqIntSS.calls k A19 c20 x9 A32 c33 x9 true _ (by (with_reducible repeat (first | apply Kd.C_drewN | apply Kd.C_drew)); exact HC23.out) HL24.out (by (with_reducible repeat (first | apply Kd.C_drewN | apply Kd.C_drew)); exact HC36.out) HL37.out H64.out).mono ?_
  rintro e w_89 ⟨rfl, ⟨nd90, rfl⟩⟩
  clear F35 HC36
  go_wp2_with fail
  go_at_call 26
  refine (laws_markIntSS.marks (fun k_ => (lo78 ≤ k_ ∧ k_ < hi79) ∧ True) (.slice A19 x9.length c20) x9 1 t38 x39 w _ (by repeat (first | exact HB.out | apply pw_below_drewN | apply below_drew1)) (by (with_reducible repeat (first | apply Kd.S_drewN | apply Kd.S_drew)); exact F22.out) H65.out).mono ?_
  rintro e w6 ⟨rfl, hF0, hB2, hK⟩
  replace F13 := Aside0.mk (show Kd.S (Kd.slice 3 (Kd.int .i64)) 31 w6 w.heap.size (fun k_ => (lo75 ≤ k_ ∧ k_ < hi76) ∧ True) (.slice A10 x16.length c11) x16 from Kd.S_kept (S := (fun k_ => (lo78 ≤ k_ ∧ k_ < hi79) ∧ True)) (by (with_reducible repeat (first | apply Kd.S_drewN | apply Kd.S_drew)); exact F13.out) hK (fun k_ h1_ h2_ => by have h3_ := h1_.1; have h4_ := h2_.1; have := O74.out; have := O77.out; have := O80.out; have := O83.out; have := O88.out; omega))
  replace HC14 := Aside0.mk (show Kd.C (Kd.slice 3 (Kd.int .i64)) w6 A10 x16.length x16 from (Kd.S_reads' F13.out).2.2)
  replace F28 := Aside0.mk (show Kd.S (Kd.slice 3 (Kd.int .i64)) 31 w6 w.heap.size (fun k_ => (lo81 ≤ k_ ∧ k_ < hi82) ∧ True) (.slice A25 x16.length c26) x16 from Kd.S_kept (S := (fun k_ => (lo78 ≤ k_ ∧ k_ < hi79) ∧ True)) (by (with_reducible repeat (first | apply Kd.S_drewN | apply Kd.S_drew)); exact F28.out) hK (fun k_ h1_ h2_ => by have h3_ := h1_.1; have h4_ := h2_.1; have := O74.out; have := O77.out; have := O80.out; have := O83.out; have := O88.out; omega))
  replace HC29 := Aside0.mk (show Kd.C (Kd.slice 3 (Kd.int .i64)) w6 A25 x16.length x16 from (Kd.S_reads' F28.out).2.2)
  clear F22 HC23
  replace HN := Aside0.mk (show hi87 ≤ w6.heap.size from Nat.le_trans HN.out hK.1)
  replace HB := Aside0.mk hB2
  clear hB2 hK hF0
  have d92 : decide (t38 < 0) = false := decide_eq_false (by have := H66.out; omega)
  go_wp2_with fail
  go_at_call 15
  refine (laws_eqIntSS.calls k A25 c26 x16 A10 c11 x16 true _ (by (with_reducible repeat (first | apply Kd.C_drewN | apply Kd.C_drew)); exact HC29.out) HL30.out (by (with_reducible repeat (first | apply Kd.C_drewN | apply Kd.C_drew)); exact HC14.out) HL15.out H63.out).mono ?_
  rintro e w_93 ⟨rfl, ⟨nd94, rfl⟩⟩
  go_wp2_with fail
  go_at_call 26
  refine (laws_markIntSS.marks (fun k_ => (lo81 ≤ k_ ∧ k_ < hi82) ∧ True) (.slice A25 x16.length c26) x16 1 t40 x41 w _ (by repeat (first | exact HB.out | apply pw_below_drewN | apply below_drew1)) (by (with_reducible repeat (first | apply Kd.S_drewN | apply Kd.S_drew)); exact F28.out) H67.out).mono ?_
  rintro e w7 ⟨rfl, hF0, hB2, hK⟩
  replace F13 := Aside0.mk (show Kd.S (Kd.slice 3 (Kd.int .i64)) 31 w7 w.heap.size (fun k_ => (lo75 ≤ k_ ∧ k_ < hi76) ∧ True) (.slice A10 x16.length c11) x16 from Kd.S_kept (S := (fun k_ => (lo81 ≤ k_ ∧ k_ < hi82) ∧ True)) (by (with_reducible repeat (first | apply Kd.S_drewN | apply Kd.S_drew)); exact F13.out) hK (fun k_ h1_ h2_ => by have h3_ := h1_.1; have h4_ := h2_.1; have := O74.out; have := O77.out; have := O80.out; have := O83.out; have := O88.out; omega))
  replace HC14 := Aside0.mk (show Kd.C (Kd.slice 3 (Kd.int .i64)) w7 A10 x16.length x16 from (Kd.S_reads' F13.out).2.2)
  replace F28 := Aside0.mk (show Kd.S (Kd.slice 3 (Kd.int .i64)) 31 w7 w.heap.size (fun k_ => (lo81 ≤ k_ ∧ k_ < hi82) ∧ True) (.slice A25 x16.length c26) x41 from hF0)
  replace HC29 := Aside0.mk (show Kd.C (Kd.slice 3 (Kd.int .i64)) w7 A25 x41.length x41 from (Kd.S_reads' F28.out).2.2)
  have HQ95 := Aside0.mk (show x16.length = x41.length from (Kd.S_reads' F28.out).1)
  replace HL30 := Aside0.mk (show x41.length ≤ c26 from by rw [← HQ95.out]; exact HL30.out)
  replace HN := Aside0.mk (show hi87 ≤ w7.heap.size from Nat.le_trans HN.out hK.1)
  replace HB := Aside0.mk hB2
  clear hB2 hK hF0
  go_wp2_with fail
  go_at_call 28
  refine calls_of_args (args' := #[.slice A25 x41.length c26, .int .i64 1]) (by rw [HQ95.out]) ?_
  refine (laws_heldIntSS.calls k A25 c26 x41 1 t40 _ (by (with_reducible repeat (first | apply Kd.C_drewN | apply Kd.C_drew)); exact HC29.out) HL30.out H68.out).mono ?_
  rintro e w_96 ⟨rfl, ⟨nd97, rfl⟩⟩
  have d98 : decide (t40 < 0) = false := decide_eq_false (by have := H69.out; omega)
  go_wp2_with fail
  go_at_call 13
  refine (laws_toIntSS.calls k A0 c0 l0 x9 _ (Kd.C_below HR0.out (by repeat (first | exact HB.out | apply pw_below_drewN | apply below_drew1))) HL0.out H60.out).mono ?_
  rintro e w8 ⟨v45, rfl, hF46, hb⟩
  have HB2 := Aside0.mk (below_next (N := hi87) (by repeat (first | exact HB.out | apply pw_below_drewN | apply below_drew1)) (by exact HN.out) (by have := O74.out; have := O77.out; have := O80.out; have := O83.out; have := O88.out; omega) hb)
  replace F13 := Aside0.mk (show Kd.S (Kd.slice 3 (Kd.int .i64)) 31 w8 w.heap.size (fun k_ => (lo75 ≤ k_ ∧ k_ < hi76) ∧ True) (.slice A10 x16.length c11) x16 from Kd.S_below (by (with_reducible repeat (first | apply Kd.S_drewN | apply Kd.S_drew)); exact F13.out) hb)
  replace HC14 := Aside0.mk (show Kd.C (Kd.slice 3 (Kd.int .i64)) w8 A10 x16.length x16 from Kd.C_below (by (with_reducible repeat (first | apply Kd.C_drewN | apply Kd.C_drew)); exact HC14.out) hb)
  replace F28 := Aside0.mk (show Kd.S (Kd.slice 3 (Kd.int .i64)) 31 w8 w.heap.size (fun k_ => (lo81 ≤ k_ ∧ k_ < hi82) ∧ True) (.slice A25 x16.length c26) x41 from Kd.S_below (by (with_reducible repeat (first | apply Kd.S_drewN | apply Kd.S_drew)); exact F28.out) hb)
  replace HC29 := Aside0.mk (show Kd.C (Kd.slice 3 (Kd.int .i64)) w8 A25 x41.length x41 from Kd.C_below (by (with_reducible repeat (first | apply Kd.C_drewN | apply Kd.C_drew)); exact HC29.out) hb)
  obtain ⟨lo99, hi100, ho, hg⟩ := fresh_pts (N := hi87) hb (by exact HN.out)
  have O101 := Aside0.mk (show hi87 ≤ lo99 ∧ lo99 ≤ hi100 from ⟨ho.1, ho.2.1⟩)
  have hF46b := S_in hF46 hg (B := w.heap.size) (by have := O74.out; have := O77.out; have := O80.out; have := O83.out; have := O88.out; have := O101.out; omega)
  obtain ⟨A43, c44, rfl, hle, hC⟩ := Kd.S_reads hF46b
  have HC47 := Aside0.mk hC
  have HL48 := Aside0.mk hle
  clear hle hC
  have F46 := Aside0.mk (show Kd.S (Kd.slice 3 (Kd.int .i64)) 31 w8 w.heap.size (fun k_ => (lo99 ≤ k_ ∧ k_ < hi100) ∧ True) (.slice A43 x9.length c44) x9 from hF46b)
  clear hF46 hF46b
  replace HN := Aside0.mk (show hi100 ≤ w8.heap.size from ho.2.2)
  clear ho hg
  replace HB := HB2
  clear HB2 hb
  go_wp2_with fail
  go_at_call 35
  refine (impl_MostFlow.calls k A43 c44 x9 x16 x17 x18 _ (by (with_reducible repeat (first | apply Kd.C_drewN | apply Kd.C_drew)); exact HC47.out) HL48.out H62.out).mono ?_
  rintro e w9 ⟨v51, rfl, hF52, hb⟩
  have HB2 := Aside0.mk (below_next (N := hi100) (by repeat (first | exact HB.out | apply pw_below_drewN | apply below_drew1)) (by exact HN.out) (by have := O74.out; have := O77.out; have := O80.out; have := O83.out; have := O88.out; have := O101.out; omega) hb)
  replace F13 := Aside0.mk (show Kd.S (Kd.slice 3 (Kd.int .i64)) 31 w9 w.heap.size (fun k_ => (lo75 ≤ k_ ∧ k_ < hi76) ∧ True) (.slice A10 x16.length c11) x16 from Kd.S_below (by (with_reducible repeat (first | apply Kd.S_drewN | apply Kd.S_drew)); exact F13.out) hb)
  replace HC14 := Aside0.mk (show Kd.C (Kd.slice 3 (Kd.int .i64)) w9 A10 x16.length x16 from Kd.C_below (by (with_reducible repeat (first | apply Kd.C_drewN | apply Kd.C_drew)); exact HC14.out) hb)
  replace F28 := Aside0.mk (show Kd.S (Kd.slice 3 (Kd.int .i64)) 31 w9 w.heap.size (fun k_ => (lo81 ≤ k_ ∧ k_ < hi82) ∧ True) (.slice A25 x16.length c26) x41 from Kd.S_below (by (with_reducible repeat (first | apply Kd.S_drewN | apply Kd.S_drew)); exact F28.out) hb)
  replace HC29 := Aside0.mk (show Kd.C (Kd.slice 3 (Kd.int .i64)) w9 A25 x41.length x41 from Kd.C_below (by (with_reducible repeat (first | apply Kd.C_drewN | apply Kd.C_drew)); exact HC29.out) hb)
  replace F46 := Aside0.mk (show Kd.S (Kd.slice 3 (Kd.int .i64)) 31 w9 w.heap.size (fun k_ => (lo99 ≤ k_ ∧ k_ < hi100) ∧ True) (.slice A43 x9.length c44) x9 from Kd.S_below (by (with_reducible repeat (first | apply Kd.S_drewN | apply Kd.S_drew)); exact F46.out) hb)
  replace HC47 := Aside0.mk (show Kd.C (Kd.slice 3 (Kd.int .i64)) w9 A43 x9.length x9 from Kd.C_below (by (with_reducible repeat (first | apply Kd.C_drewN | apply Kd.C_drew)); exact HC47.out) hb)
  obtain ⟨lo102, hi103, ho, hg⟩ := fresh_pts (N := hi100) hb (by exact HN.out)
  have O104 := Aside0.mk (show hi100 ≤ lo102 ∧ lo102 ≤ hi103 from ⟨ho.1, ho.2.1⟩)
  have hF52b := S_in hF52 hg (B := w.heap.size) (by have := O74.out; have := O77.out; have := O80.out; have := O83.out; have := O88.out; have := O101.out; have := O104.out; omega)
  obtain ⟨A49, c50, rfl, hle, hC⟩ := Kd.S_reads hF52b
  have HC53 := Aside0.mk hC
  have HL54 := Aside0.mk hle
  clear hle hC
  have F52 := Aside0.mk (show Kd.S (Kd.slice 3 (Kd.int .i64)) 31 w9 w.heap.size (fun k_ => (lo102 ≤ k_ ∧ k_ < hi103) ∧ True) (.slice A49 x16.length c50) x16 from hF52b)
  clear hF52 hF52b
  replace HN := Aside0.mk (show hi103 ≤ w9.heap.size from ho.2.2)
  clear ho hg
  replace HB := HB2
  clear HB2 hb
  clear F46 HC47
  go_wp2_with fail
  go_at_call 15
  refine (laws_eqIntSS.calls k A49 c50 x16 A10 c11 x16 true _ (by (with_reducible repeat (first | apply Kd.C_drewN | apply Kd.C_drew)); exact HC53.out) HL54.out (by (with_reducible repeat (first | apply Kd.C_drewN | apply Kd.C_drew)); exact HC14.out) HL15.out H63.out).mono ?_
  rintro e w_105 ⟨rfl, ⟨nd106, rfl⟩⟩
  clear F13 HC14
  clear F52 HC53
  go_wp2_with fail
  go_at_call 28
  refine calls_of_args (args' := #[.slice A25 x41.length c26, .int .i64 1]) (by rw [HQ95.out]) ?_
  refine (laws_heldIntSS.calls k A25 c26 x41 1 t40 _ (by (with_reducible repeat (first | apply Kd.C_drewN | apply Kd.C_drew)); exact HC29.out) HL30.out H68.out).mono ?_
  rintro e w_107 ⟨rfl, ⟨nd108, rfl⟩⟩
  clear F28 HC29
  have d109 : decide (t40 < 0) = false := decide_eq_false (by have := H69.out; omega)
  go_wp2_with fail
  go_ret
  exact ⟨rfl, (by repeat (first | exact HB.out | apply pw_below_drewN | apply below_drew1))⟩

/-- THE ONE PURE STATEMENT of laws_FnExactMostFlow. -/
def laws_FnExactMostFlow.Pure : Prop := ∀ (l0 : List (List Int)), (l0.length ≤ maxLen ∧ ∀ x ∈ l0, (x.length ≤ maxLen ∧ ∀ y_ ∈ x, (Lit.int .i64 y_).wf = true)) → ∃ k, laws_FnExactMostFlow.f k l0 = some true
theorem laws_FnExactMostFlow.walk (P : laws_FnExactMostFlow.Pure) (A0 : Option Addr) (c0 : Nat) (l0 : List (List Int)) (w : World) (hr0 : Kd.C (Kd.slice 3 (Kd.int .i64)) w A0 l0.length l0) (hc0 : l0.length ≤ c0) (hw0 : (l0.length ≤ maxLen ∧ ∀ x ∈ l0, (x.length ≤ maxLen ∧ ∀ y_ ∈ x, (Lit.int .i64 y_).wf = true))) :
    Calls Try.prog 10 #[.slice A0 l0.length c0] w fun e w' => e = .returned (.bool true) ∧ Below w.heap.size w w' := by
  obtain ⟨k, h⟩ := P l0 hw0
  refine (laws_FnExactMostFlow.calls k _ _ l0 true w hr0 hc0 h).mono ?_
  rintro e w' ⟨rfl, hd⟩
  exact ⟨rfl, hd⟩

end Go.Proofs.Ytdbepjnapjjlcaa.GLMostFlow
