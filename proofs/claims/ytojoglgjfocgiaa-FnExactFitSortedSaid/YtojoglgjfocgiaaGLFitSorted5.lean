-- Written by a program of this session (gprint.py), over the kit's print: not trusted: Lean checks it.
import Derived.Test.YtojoglgjfocgiaaGLFitSorted0
import Derived.Test.YtojoglgjfocgiaaGLFitSorted1
import Derived.Test.YtojoglgjfocgiaaGLFitSorted2
import Derived.Test.YtojoglgjfocgiaaGLFitSorted4
namespace Go.Proofs.Ytojoglgjfocgiaa.GLFitSorted
open Go.RowKit Go.Proofs.YtojoglgjfocgiaaW.PrintWords Go.Proofs.YtojoglgjfocgiaaW.PrintLast Go.Proofs.YtojoglgjfocgiaaW.PrintMore Go.Proofs.YtojoglgjfocgiaaW.PrintOwn
attribute [local go_sem] max2_int min2_int max_two min_two max_three min_three max_four min_four   -- for this text's walks alone
set_option linter.unusedVariables false
set_option linter.unusedSimpArgs false

/-! ### impl_filled: function 58 -/
def impl_filled.l0 : Nat → List Int → Int → List Int → Int → Int → Option (Int)
  | 0, _, _, _, _, _ => none
  | k + 1, x0, x5, x8, x9, x10 => if x10 < x9 then (if 0 ≤ x10 then (if x10 < (x8.length : Int) then (if 0 ≤ (rd x8 x10) then (if (rd x8 x10) < (x0.length : Int) then (impl_filled.l0 k x0 (wrap64 (x5 + (rd x0 (rd x8 x10)))) x8 x9 (wrap64 (x10 + 1))) else (none)) else (none)) else (none)) else (none)) else (some x5)
def impl_filled.f (k : Nat) (l0 : List Int) (l1 : List Int) : Option (Int) := impl_filled.l0 k l0 0 l1 (l1.length : Int) 0
theorem impl_filled.mono_l : ∀ k, (∀ y0 y1 y2 y3 y4, LeO (impl_filled.l0 k y0 y1 y2 y3 y4) (impl_filled.l0 (k + 1) y0 y1 y2 y3 y4))
  | 0 => fun _ _ _ _ _ r h => by simp [impl_filled.l0] at h
  | k + 1 => by
    have ih0 := impl_filled.mono_l k
    · intro y0 y1 y2 y3 y4
      unfold impl_filled.l0
      repeat' first
      | (with_reducible exact ih0 _ _ _ _ _)
      | (with_reducible exact LeO.refl _)
      | (with_reducible exact LeO.none _)
      | (with_reducible refine LeO.ite ?_ ?_)
      | (with_reducible refine LeO.bind ?_ (fun _ => ?_))
      | exact ih0 _ _ _ _ _
      | exact LeO.none _
      | refine LeO.ite ?_ ?_
      | refine LeO.bind ?_ (fun _ => ?_)
theorem impl_filled.mono : ∀ a0 a1 k, LeO (impl_filled.f k a0 a1) (impl_filled.f (k + 1) a0 a1) := by
  intro a0 a1 k
  have ih0 := impl_filled.mono_l k
  unfold impl_filled.f
  repeat' first
      | (with_reducible exact ih0 _ _ _ _ _)
      | (with_reducible exact LeO.refl _)
      | (with_reducible exact LeO.none _)
      | (with_reducible refine LeO.ite ?_ ?_)
      | (with_reducible refine LeO.bind ?_ (fun _ => ?_))
      | exact ih0 _ _ _ _ _
      | exact LeO.none _
      | refine LeO.ite ?_ ?_
      | refine LeO.bind ?_ (fun _ => ?_)
set_option maxHeartbeats 8000000 in
set_option maxRecDepth 100000 in
theorem impl_filled.calls (k : Nat) (A0 : Option Addr) (c0 : Nat) (l0 : List Int) (A1 : Option Addr) (c1 : Nat) (l1 : List Int) (r : Int) (w : World) (hr0 : Kd.C (Kd.int .i64) w A0 l0.length l0) (hc0 : l0.length ≤ c0) (hr1 : Kd.C (Kd.int .i64) w A1 l1.length l1) (hc1 : l1.length ≤ c1) (h : impl_filled.f k l0 l1 = some r) :
    Calls Try.prog 58 #[.slice A0 l0.length c0, .slice A1 l1.length c1] w fun e w' => e = .returned (.int .i64 r) ∧ Drawn0 w w' := by
  have HR0 := Aside0.mk hr0
  have HC0 := Aside0.mk hc0
  clear hr0 hc0
  have HR1 := Aside0.mk hr1
  have HC1 := Aside0.mk hc1
  clear hr1 hc1
  have H : (impl_filled.l0 k l0 0 l1 (l1.length : Int) 0) = some r := h
  clear h
  have H' := Aside0.mk H
  clear H
  go_enter Try.func58, Try.ntmps58
  go_wp2
  go_loopg [5, 10] k (fun kq v5 v10 w' => ∃ (x5_1 : Int) (x10_1 : Int), v5 = .int .i64 x5_1 ∧ v10 = .int .i64 x10_1 ∧ Aside0 (impl_filled.l0 kq l0 x5_1 l1 (l1.length : Int) x10_1 = some r) ∧ Aside0 (kq ≤ k) ∧ Drawn0 w w')
  case atStart => exact ⟨(0), (0), (by first | rfl | (simp; done) | (simp [*]; done)), (by first | rfl | (simp; done) | (simp [*]; done)), H', ⟨Nat.le_refl _⟩, by repeat (first | exact Drawn0.refl _ | apply Drawn0.step)⟩
  case round =>
    clear H'
    try clear c1
    try clear p2
    obtain ⟨x5_1, x10_1, rfl, rfl, HA, HK1, ⟨m1, rfl⟩⟩ := hrel
    cases gk with
    | zero => exact absurd HA.out (by simp [impl_filled.l0])
    | succ k1 =>
      have H := HA.out
      clear HA
      simp only [impl_filled.l0] at H
      by_cases c3 : x10_1 < (l1.length : Int)
      · rw [if_pos c3] at H
        have c3b0 : decide (x10_1 < (l1.length : Int)) = true := decide_eq_true c3
        clear c3
        by_cases c4 : 0 ≤ x10_1
        · rw [if_pos c4] at H
          have c4b0 : decide (0 ≤ x10_1) = true := decide_eq_true c4
          clear c4
          by_cases c5 : x10_1 < (l1.length : Int)
          · rw [if_pos c5] at H
            have c5b0 : decide (x10_1 < (l1.length : Int)) = true := decide_eq_true c5
            clear c5
            by_cases c6 : 0 ≤ (rd l1 x10_1)
            · rw [if_pos c6] at H
              have c6b0 : decide (0 ≤ (rd l1 x10_1)) = true := decide_eq_true c6
              clear c6
              by_cases c7 : (rd l1 x10_1) < (l0.length : Int)
              · rw [if_pos c7] at H
                have c7b0 : decide ((rd l1 x10_1) < (l0.length : Int)) = true := decide_eq_true c7
                clear c7
                have H' := Aside0.mk H
                clear H
                have p229 : 0 ≤ (x10_1 : Int) := of_decide_eq_true (by first | (with_reducible assumption) | assumption)
                have q229 : x10_1 < (l1.length : Int) := of_decide_eq_true (by first | (with_reducible assumption) | assumption)
                obtain ⟨ad229, e229, hx229_0⟩ := Kd.at_int HR1.out x10_1 p229 q229
                cases e229
                replace p229 := eq_true p229
                replace q229 := eq_true q229
                have p230 : 0 ≤ ((rd l1 x10_1) : Int) := of_decide_eq_true (by first | (with_reducible assumption) | assumption)
                have q230 : (rd l1 x10_1) < (l0.length : Int) := of_decide_eq_true (by first | (with_reducible assumption) | assumption)
                obtain ⟨ad230, e230, hx230_0⟩ := Kd.at_int HR0.out (rd l1 x10_1) p230 q230
                cases e230
                replace p230 := eq_true p230
                replace q230 := eq_true q230
                go_wp2
                go_roundg k1
                case measure => have := HK1.out; omega
                case rel => exact ⟨(wrap64 (x5_1 + (rd l0 (rd l1 x10_1)))), (wrap64 (x10_1 + 1)), (by first | rfl | (simp; done) | (simp [*]; done)), (by first | rfl | (simp; done) | (simp [*]; done)), H', ⟨by have := HK1.out; omega⟩, by repeat (first | exact Drawn0.refl _ | apply Drawn0.step)⟩
              · rw [if_neg c7] at H
                exact absurd H (by simp)
            · rw [if_neg c6] at H
              exact absurd H (by simp)
          · rw [if_neg c5] at H
            exact absurd H (by simp)
        · rw [if_neg c4] at H
          exact absurd H (by simp)
      · rw [if_neg c3] at H
        have c3b0 : decide (x10_1 < (l1.length : Int)) = false := decide_eq_false c3
        clear c3
        obtain rfl := Option.some.inj H
        go_wp2
        go_ret
        exact ⟨by first | rfl | (simp; done) | (simp [*]; done), by repeat (first | exact Drawn0.refl _ | apply Drawn0.step)⟩

/-! ### impl_firstFit: function 42 -/
def impl_firstFit.fillS (l0 : List Int) : Int → List Int → Int
  | s, [] => s
  | s, v :: x => impl_firstFit.fillS l0 (wrap64 (s + rd l0 v)) x
def impl_firstFit.okB (l0 : List Int) (x : List Int) : Bool := x.all fun v => decide (0 ≤ v) && decide (v < (l0.length : Int))
def impl_firstFit.fits (l0 : List Int) (i : Int) (x : List Int) : Bool := decide (wrap64 (impl_firstFit.fillS l0 0 x + rd l0 i) ≤ 20)
def impl_firstFit.idx (l0 : List Int) (i : Int) (xs : List (List Int)) : Option Int := if (0 ≤ i ∧ i < (l0.length : Int)) ∧ (∀ x ∈ xs, impl_firstFit.okB l0 x = true) then some (idxP (impl_firstFit.fits l0 i) xs) else none
theorem impl_firstFit.fill_go (l0 : List Int) (x : List Int) (hl : x.length ≤ 9223372036854775807) : ∀ (suf pre : List Int) (s : Int), x = pre ++ suf → impl_firstFit.okB l0 suf = true → ∃ k, impl_filled.l0 k l0 s x (x.length : Int) (pre.length : Int) = some (impl_firstFit.fillS l0 s suf)
  | [], pre, s, e, h => ⟨1, by simp only [impl_filled.l0, impl_firstFit.fillS]; rw [if_neg (by rw [e]; simp)]⟩
  | v :: suf, pre, s, e, h => by
    unfold impl_firstFit.okB at h
    rw [List.all_cons, Bool.and_eq_true, Bool.and_eq_true, decide_eq_true_eq, decide_eq_true_eq] at h
    obtain ⟨k, hk⟩ := impl_firstFit.fill_go l0 x hl suf (pre ++ [v]) (wrap64 (s + rd l0 v)) (by rw [e]; simp) h.2
    have h1 : (pre.length : Int) < (x.length : Int) := by rw [e, List.length_append, List.length_cons]; omega
    have h2 : rd x (pre.length : Int) = v := by
      show x.getD (pre.length : Int).toNat 0 = v
      rw [Int.toNat_natCast, e]
      simp
    have h3 : wrap64 ((pre.length : Int) + 1) = ((pre ++ [v]).length : Int) := by rw [List.length_append, List.length_singleton]; unfold wrap64; omega
    refine ⟨k + 1, ?_⟩
    simp only [impl_filled.l0, impl_firstFit.fillS]
    rw [if_pos h1, if_pos (by omega), if_pos h1, h2, if_pos h.1.1, if_pos h.1.2, h3]
    exact hk
theorem impl_firstFit.fill (l0 : List Int) (x : List Int) (hl : x.length ≤ 9223372036854775807) (h : impl_firstFit.okB l0 x = true) : ∃ k, impl_filled.f k l0 x = some (impl_firstFit.fillS l0 0 x) := impl_firstFit.fill_go l0 x hl x [] 0 rfl h
theorem impl_firstFit.pred (Bl Bk : Nat) (A0 : Option Addr) (c0 : Nat) (l0 : List Int) (i : Int) (A_ : Option Addr) (c_ : Nat) (x : List Int) (W : World) (hBl : W.cell? ⟨Bl, 0, none⟩ = some (.slice A0 l0.length c0)) (hBk : W.cell? ⟨Bk, 0, none⟩ = some (.int .i64 i)) (hr0 : Kd.C (Kd.int .i64) W A0 l0.length l0) (hc0 : l0.length ≤ c0) (hrx : Kd.C (Kd.int .i64) W A_ x.length x) (hcx : x.length ≤ c_) (h0 : 0 ≤ i) (h1 : i < (l0.length : Int)) (hx : impl_firstFit.okB l0 x = true) :
    Calls Try.prog 57 #[.slice A_ x.length c_, .pointer (some ⟨Bl, 0, none⟩), .pointer (some ⟨Bk, 0, none⟩)] W fun e w' => e = .returned (.bool (impl_firstFit.fits l0 i x)) ∧ Below W.heap.size W w' := by
  have hmx := Kd.C_max hrx
  obtain ⟨k, hk⟩ := impl_firstFit.fill l0 x (by first | omega | (unfold maxLen at hmx; omega)) hx
  have HF := Aside0.mk (fun n => impl_filled.calls k A0 c0 l0 A_ c_ x _ (W.drewN n) (Kd.C_drewN hr0 n) hc0 (Kd.C_drewN hrx n) hcx hk)
  obtain ⟨ad, e, cx⟩ := Kd.at_int hr0 i h0 h1
  cases e
  have p0 := eq_true h0
  have p1 := eq_true h1
  have p2 : decide (0 ≤ i) = true := decide_eq_true h0
  have p3 : decide (i < (l0.length : Int)) = true := decide_eq_true h1
  unfold impl_firstFit.fits
  generalize impl_firstFit.fillS l0 0 x = s at HF
  clear h0 h1 hk hmx hr0 hrx hcx hx hc0
  go_enter Try.func57, Try.ntmps57
  go_wp2
  go_quiet ((go_at_call 58; refine (HF.out _).mono ?_; rintro e w' ⟨rfl, ⟨nd, rfl⟩⟩; (try first | exact ⟨rfl, _, World.drewN_drewN _ _ _⟩ | exact ⟨rfl, _, rfl⟩)))
  go_wp2
  go_ret
  exact ⟨rfl, by repeat (first | exact Below.refl _ _ | apply pw_below_drewN)⟩
theorem impl_firstFit.ixf (Bl Bk : Nat) (A0 : Option Addr) (c0 : Nat) (l0 : List Int) (i : Int) (A5 : Option Addr) (c5 : Nat) (x5 : List (List Int)) (t : Int) (W : World) (hBl : W.cell? ⟨Bl, 0, none⟩ = some (.slice A0 l0.length c0)) (hBk : W.cell? ⟨Bk, 0, none⟩ = some (.int .i64 i)) (hr0 : Kd.C (Kd.int .i64) W A0 l0.length l0) (hc0 : l0.length ≤ c0) (hr5 : Kd.C (Kd.slice 3 (Kd.int .i64)) W A5 x5.length x5) (h : impl_firstFit.idx l0 i x5 = some t) :
    Calls Try.prog 56 #[.slice A5 x5.length c5, .func (.func 57) #[] #[.pointer (some ⟨Bl, 0, none⟩), .pointer (some ⟨Bk, 0, none⟩)]] W fun e w' => e = .returned (.int .i64 t) ∧ Below W.heap.size W w' := by
  unfold impl_firstFit.idx at h
  split at h
  case isFalse => cases h
  case isTrue hc =>
  obtain rfl := Option.some.inj h
  refine slices_IndexFunc_int_int_56.any A5 c5 x5 (impl_firstFit.fits l0 i) 57 #[.pointer (some ⟨Bl, 0, none⟩), .pointer (some ⟨Bk, 0, none⟩)] (enters_of Try.func57 (by kernel_rfl) rfl) W hr5 (fun x hx A_ c_ hcx hrx W' hW => ?_)
  exact (impl_firstFit.pred Bl Bk A0 c0 l0 i A_ c_ x W' ((hW.cell (World.block_lt_of_cell? W _ hBl)).trans hBl) ((hW.cell (World.block_lt_of_cell? W _ hBk)).trans hBk) (Kd.C_below hr0 hW) hc0 (Kd.C_below hrx hW) hcx hc.1.1 hc.1.2 (hc.2 x hx)).mono fun e w' h => ⟨h.1, below_step hW h.2⟩
def impl_firstFit.l0 : Nat → List Int → List (List Int) → List Int → Int → Int → Option ((List (List Int)))
  | 0, _, _, _, _, _ => none
  | k + 1, x0, x5, x10, x11, x12 => if x12 < x11 then (if 0 ≤ x12 then (if x12 < (x10.length : Int) then ((impl_firstFit.idx x0 (rd x10 x12) x5).bind fun t236 => (if t236 < 0 then (if x5.length < 5864062014805 then (impl_firstFit.l0 k x0 (x5 ++ [(([rd x10 x12] : List Int))]) x10 x11 (wrap64 (x12 + 1))) else (none)) else (if 0 ≤ t236 then (if t236 < (x5.length : Int) then (if (rd_L1 x5 t236).length < 17592186044416 then (impl_firstFit.l0 k x0 (x5.set (t236 : Int).toNat ((rd_L1 x5 t236) ++ [rd x10 x12])) x10 x11 (wrap64 (x12 + 1))) else (none)) else (none)) else (none)))) else (none)) else (none)) else (some x5)
def impl_firstFit.f (k : Nat) (l0 : List Int) (l1 : List Int) : Option ((List (List Int))) := impl_firstFit.l0 k l0 (([] : List (List Int))) l1 (l1.length : Int) 0
theorem impl_firstFit.mono_l : ∀ k, (∀ y0 y1 y2 y3 y4, LeO (impl_firstFit.l0 k y0 y1 y2 y3 y4) (impl_firstFit.l0 (k + 1) y0 y1 y2 y3 y4))
  | 0 => fun _ _ _ _ _ r h => by simp [impl_firstFit.l0] at h
  | k + 1 => by
    have ih0 := impl_firstFit.mono_l k
    · intro y0 y1 y2 y3 y4
      unfold impl_firstFit.l0
      repeat' first
      | (with_reducible exact ih0 _ _ _ _ _)
      | (with_reducible exact LeO.refl _)
      | (with_reducible exact LeO.none _)
      | (with_reducible refine LeO.ite ?_ ?_)
      | (with_reducible refine LeO.bind ?_ (fun _ => ?_))
      | exact ih0 _ _ _ _ _
      | exact LeO.none _
      | refine LeO.ite ?_ ?_
      | refine LeO.bind ?_ (fun _ => ?_)
theorem impl_firstFit.mono : ∀ a0 a1 k, LeO (impl_firstFit.f k a0 a1) (impl_firstFit.f (k + 1) a0 a1) := fun a0 a1 k => impl_firstFit.mono_l k _ _ _ _ _
def impl_firstFit.T8 : Bool × List (List Nat × List Nat) := (true, [([], []), ([], []), ([], []), ([], []), ([2, 3], [2, 3]), ([4], [4]), ([], []), ([6], [6]), ([5, 7], [5, 7]), ([0, 1, 0, 1, 2, 3, 4, 5, 6, 7, 8], [0, 1]), ([9, 8, 8, 0, 1, 2, 3, 4, 5, 6, 7, 8], [8, 9])])
def impl_firstFit.B8 : List Nat := [0, 0, 0, 0, 12, 28, 0, 64, 252, 511, 1023]
theorem impl_firstFit.tab8 : rtab .any (opsOf Try.f42 8) = impl_firstFit.T8 := by kernel_rfl
theorem impl_firstFit.bits8 : waitsOk impl_firstFit.T8.2 impl_firstFit.B8 = true := by kernel_rfl
set_option maxHeartbeats 8000000 in
set_option maxRecDepth 100000 in
theorem impl_firstFit.calls (k : Nat) (A0 : Option Addr) (c0 : Nat) (l0 : List Int) (A1 : Option Addr) (c1 : Nat) (l1 : List Int) (r : List (List Int)) (w : World) (hr0 : Kd.C (Kd.int .i64) w A0 l0.length l0) (hc0 : l0.length ≤ c0) (hr1 : Kd.C (Kd.int .i64) w A1 l1.length l1) (hc1 : l1.length ≤ c1) (h : impl_firstFit.f k l0 l1 = some r) :
    Calls Try.prog 42 #[.slice A0 l0.length c0, .slice A1 l1.length c1] w fun e w' => ∃ v0_ : Value, e = .returned (v0_) ∧ Kd.S (Kd.slice 3 (Kd.int .i64)) 22 w' w.heap.size (fun _ => True) v0_ r ∧ Below w.heap.size w w' := by
  have HR0 := Aside0.mk hr0
  have HC0 := Aside0.mk hc0
  clear hr0 hc0
  have HR1 := Aside0.mk hr1
  have HC1 := Aside0.mk hc1
  clear hr1 hc1
  have HB := Aside0.mk (Below.refl w.heap.size w)
  have H : (impl_firstFit.l0 k l0 (([] : List (List Int))) l1 (l1.length : Int) 0) = some r := h
  clear h
  obtain ⟨y231, hy231⟩ : ∃ y_ : List (List Int), y_ = (([] : List (List Int))) := ⟨_, rfl⟩
  replace H : (impl_firstFit.l0 k l0 y231 l1 (l1.length : Int) 0) = some r := by first | (rw [hy231]; with_reducible exact H) | (have H2_ := (Option.bind_some _ _).symm.trans H; rw [hy231]; with_reducible exact H2_) | (have H2_ := (Option.bind_some _ _).symm.trans H; with_reducible exact H2_) | with_reducible exact H | (rw [hy231]; exact H) | exact H
  have Ny231 := Aside0.mk hy231
  clear hy231
  have H' := Aside0.mk H
  clear H
  go_enter Try.func42, Try.ntmps42
  go_wp2_with (first | ((with_reducible refine gate_dst (N := 9) rfl ?_); refine Kd.S_lit (Kd.slice 3 (Kd.int .i64)) _ 22 ?hg (N := 9) ?hd (xs := ([] : List (List Int))) (inner := []) (ok := fun _ => True) (okp := fun _ => True) ?hr ?hp (fun _ hk => hk) trivial (Below.refl _ _) (Nat.le_refl _) (by simp) ?_; (case hd => rfl); (case hg => rfl); (case hr => first | (go_simp; done) | (go_simp; rfl)); (case hp => exact (Reps.none _ _)); intro v232 w3 ho4 hb hg_ hnew_; clear hg_ hnew_; obtain ⟨wa, hwa⟩ : ∃ wa : World, wa = w.alloc (.cells #[.slice A0 l0.length c0] 22) := ⟨_, rfl⟩; rw [← hwa] at ho4 hb; have hsz : wa.heap.size = w.heap.size + 1 := (by rw [hwa]; simp); have hbx : wa.cell? ⟨w.heap.size, 0, none⟩ = some (.slice A0 l0.length c0) := (by rw [hwa]; simp); have hbw : Below w.heap.size w wa := (by rw [hwa]; exact (Below.refl w.heap.size w).alloc (Nat.le_refl _) _); rw [← Ny231.out] at ho4; have HO233 := Aside0.mk ho4; have n1_ := Aside0.mk hb; clear HB; have HB := n1_; clear n1_; have HSZ := Aside0.mk hsz; have HBX := Aside0.mk hbx; have HBW := Aside0.mk hbw; have n2_ := Aside0.mk (Kd.C_below HR0.out hbw); have n3_ := Aside0.mk (Kd.C_below HR1.out hbw); clear HR0 HR1; have HR0 := n2_; have HR1 := n3_; clear n2_ n3_; clear ho4 hb hsz hbx hbw hwa))
  go_loopg [5, 12] k (fun kq v5 v12 w' => ∃ (x5_1 : List (List Int)) (x12_1 : Int), v12 = .int .i64 x12_1 ∧ Aside0 (impl_firstFit.l0 kq l0 x5_1 l1 (l1.length : Int) x12_1 = some r) ∧ Aside0 (kq ≤ k) ∧ Aside0 (Kd.S (Kd.slice 3 (Kd.int .i64)) 22 w' wa.heap.size (fun _ => True) v5 x5_1) ∧ Aside0 (Below wa.heap.size wa w'))
  case atStart => exact ⟨(y231), (0), (by first | rfl | (simp; done) | (simp [*]; done)), H', ⟨Nat.le_refl _⟩, ⟨by (with_reducible repeat (first | apply Kd.S_alloc | apply Kd.S_drewN | apply Kd.S_drew)); exact HO233.out⟩, ⟨by repeat (first | (with_reducible first | exact HB.out | apply below_alloc | apply pw_below_drewN | apply below_drew1) | exact HB.out)⟩⟩
  case round =>
    clear H'
    try clear c1
    try clear p2
    try clear c4
    obtain ⟨x5_1, x12_1, rfl, HA, HK1, HO_5, HB⟩ := hrel
    cases gk with
    | zero => exact absurd HA.out (by simp [impl_firstFit.l0])
    | succ k1 =>
      have H := HA.out
      clear HA
      simp only [impl_firstFit.l0] at H
      by_cases c5 : x12_1 < (l1.length : Int)
      · rw [if_pos c5] at H
        have c5b0 : decide (x12_1 < (l1.length : Int)) = true := decide_eq_true c5
        clear c5
        by_cases c6 : 0 ≤ x12_1
        · rw [if_pos c6] at H
          have c6b0 : decide (0 ≤ x12_1) = true := decide_eq_true c6
          clear c6
          by_cases c7 : x12_1 < (l1.length : Int)
          · rw [if_pos c7] at H
            have c7b0 : decide (x12_1 < (l1.length : Int)) = true := decide_eq_true c7
            clear c7
            replace H := Option.bind_eq_some_iff.mp H
            obtain ⟨t236, A80, H⟩ := H
            replace H : (if t236 < 0 then (if x5_1.length < 5864062014805 then (impl_firstFit.l0 k1 l0 (x5_1 ++ [(([rd l1 x12_1] : List Int))]) l1 (l1.length : Int) (wrap64 (x12_1 + 1))) else (none)) else (if 0 ≤ t236 then (if t236 < (x5_1.length : Int) then (if (rd_L1 x5_1 t236).length < 17592186044416 then (impl_firstFit.l0 k1 l0 (x5_1.set (t236 : Int).toNat ((rd_L1 x5_1 t236) ++ [rd l1 x12_1])) l1 (l1.length : Int) (wrap64 (x12_1 + 1))) else (none)) else (none)) else (none))) = some r := H
            have A8 := Aside0.mk A80
            clear A80
            by_cases c9 : t236 < 0
            · rw [if_pos c9] at H
              have c9b0 : decide (t236 < 0) = true := decide_eq_true c9
              clear c9
              obtain ⟨y237, hy237⟩ : ∃ y_ : List Int, y_ = (([rd l1 x12_1] : List Int)) := ⟨_, rfl⟩
              replace H : (if x5_1.length < 5864062014805 then (impl_firstFit.l0 k1 l0 (x5_1 ++ [y237]) l1 (l1.length : Int) (wrap64 (x12_1 + 1))) else (none)) = some r := by first | (rw [hy237]; with_reducible exact H) | (have H2_ := (Option.bind_some _ _).symm.trans H; rw [hy237]; with_reducible exact H2_) | (have H2_ := (Option.bind_some _ _).symm.trans H; with_reducible exact H2_) | with_reducible exact H | (rw [hy237]; exact H) | exact H
              have Ny237 := Aside0.mk hy237
              clear hy237
              by_cases c10 : x5_1.length < 5864062014805
              · rw [if_pos c10] at H
                have LMc10 := Aside0.mk c10
                clear c10
                obtain ⟨y240, hy240⟩ : ∃ y_ : List (List Int), y_ = (x5_1 ++ [y237]) := ⟨_, rfl⟩
                replace H : (impl_firstFit.l0 k1 l0 y240 l1 (l1.length : Int) (wrap64 (x12_1 + 1))) = some r := by first | (rw [hy240]; with_reducible exact H) | (have H2_ := (Option.bind_some _ _).symm.trans H; rw [hy240]; with_reducible exact H2_) | (have H2_ := (Option.bind_some _ _).symm.trans H; with_reducible exact H2_) | with_reducible exact H | (rw [hy240]; exact H) | exact H
                have Ny240 := Aside0.mk hy240
                clear hy240
                have H' := Aside0.mk H
                clear H
                have p234 : 0 ≤ (x12_1 : Int) := of_decide_eq_true (by first | (with_reducible assumption) | assumption)
                have q234 : x12_1 < (l1.length : Int) := of_decide_eq_true (by first | (with_reducible assumption) | assumption)
                obtain ⟨ad234, e234, hx234_0⟩ := Kd.at_int HR1.out x12_1 p234 q234
                cases e234
                replace hx234_0 := (HB.out.cell (World.block_lt_of_cell? wa _ hx234_0)).trans hx234_0
                replace p234 := eq_true p234
                replace q234 := eq_true q234
                have p235 : 0 ≤ (x12_1 : Int) := of_decide_eq_true (by first | (with_reducible assumption) | assumption)
                have q235 : x12_1 < (l1.length : Int) := of_decide_eq_true (by first | (with_reducible assumption) | assumption)
                obtain ⟨ad235, e235, hx235_0⟩ := Kd.at_int HR1.out x12_1 p235 q235
                obtain rfl : ad234 = ad235 := (by injection e235)
                replace hx235_0 := (HB.out.cell (World.block_lt_of_cell? wa _ hx235_0)).trans hx235_0
                replace p235 := eq_true p235
                replace q235 := eq_true q235
                obtain ⟨Ao5, co5, eo5⟩ := Kd.S_slice HO_5.out
                subst eo5
                go_wp2_with (first | (go_at_call 56; generalize hw : wr.alloc (.cells #[.int .i64 (rd l1 x12_1)] 3) = w2; have hb2 : Below wr.heap.size wr w2 := (by rw [← hw]; exact (Below.refl wr.heap.size wr).alloc (Nat.le_refl _) _); have hk2 : w2.cell? ⟨wr.heap.size, 0, none⟩ = some (.int .i64 (rd l1 x12_1)) := (by rw [← hw]; simp); have hs2 : w2.heap.size = wr.heap.size + 1 := (by rw [← hw]; simp); have n0_ := Aside0.mk (Kd.S_below (Kd.S_mono (Kd.S_bound HO_5.out) (ok' := fun k_ => k_ ≠ wr.heap.size) (fun k_ hk_ => Nat.ne_of_lt hk_.2.2.1)) hb2); have n1_ := Aside0.mk (below_step HB.out hb2); have HIX := Aside0.mk (impl_firstFit.ixf w.heap.size wr.heap.size A0 c0 l0 (rd l1 x12_1) Ao5 co5 x5_1 t236 w2 ((n1_.out.cell (p := ⟨w.heap.size, 0, none⟩) (by have := HSZ.out; show w.heap.size < _; omega)).trans HBX.out) hk2 (Kd.C_below HR0.out n1_.out) HC0.out (Kd.S_reads' n0_.out).2.2 A8.out); refine HIX.out.mono ?_; rintro e w3 ⟨rfl, hb3⟩; have m0_ := Aside0.mk (Kd.S_below n0_.out hb3); have m1_ := Aside0.mk (below_step n1_.out hb3); have hk3 := (hb3.cell (p := ⟨wr.heap.size, 0, none⟩) (by show wr.heap.size < _; omega)).trans hk2; have HBK := Aside0.mk (show wr.heap.size < w3.heap.size from by have := hb3.size; omega); clear HO_5 HB hb3 HIX hw hb2 hk2 hs2 n0_ n1_; have HO_5 := m0_; have HB := m1_; clear m0_ m1_) | ((with_reducible refine gate_dst (N := 23) rfl ?_); refine Kd.R_lit (Kd.int .i64) _ 3 ?hg (N := 23) ?hd (xs := ([rd l1 x12_1] : List Int)) (inner := [.int .i64 (rd l1 x12_1)]) (ok := fun _ => True) (okp := fun _ => True) ?hr ?hp (fun _ hk => hk) trivial (Below.refl _ _) (Nat.le_refl _) (by simp) ?_; (case hd => rfl); (case hg => rfl); (case hr => first | (go_simp; done) | (go_simp; rfl)); (case hp => exact (Reps.one (show Kd.M (Kd.int .i64) _ _ _ (rd l1 x12_1) [.int .i64 (rd l1 x12_1)] from rfl) (Reps.none _ _))); intro v238 w11 ho12 hb hg_ hnew_; clear hg_ hnew_; (first | rw [← Ny237.out] at ho12 | (simp only [Int.reduceToNat] at ho12; rw [← Ny237.out] at ho12)); have n0_ := Aside0.mk (Kd.S_elder' (by (with_reducible repeat (first | apply Kd.S_alloc | apply Kd.S_drewN | apply Kd.S_drew)); exact HO_5.out) (Kd.R_base ho12) hb); have n1_ := Aside0.mk (Kd.R_lower ho12 (below_size (by repeat (first | (with_reducible first | exact HB.out | apply below_alloc | apply pw_below_drewN | apply below_drew1) | exact HB.out)))); have n2_ := Aside0.mk (below_step (by repeat (first | (with_reducible first | exact HB.out | apply below_alloc | apply pw_below_drewN | apply below_drew1) | exact HB.out)) hb); clear HO_5; clear HB; have HO_5 := n0_; have HO239 := n1_; have HB := n2_; clear n0_ n1_ n2_; clear hb ho12; obtain ⟨Ao14, co14, eo14⟩ := Kd.R_slice HO239.out; subst eo14) | ((with_reducible refine gate_builtin (b := .append) (xs := #[.tmp 21, .tmp 24]) rfl ?_); at_builtin; refine Kd.S_append (Kd.slice 3 (Kd.int .i64)) (w0 := wa) wa.heap.size rfl (.tmp 21) (.tmp 24) 28 22 (.slice none 0 0) 24 rfl Try.underlying28 info22 rfl (by decide) (by omega) (.slice Ao5 x5_1.length co5) x5_1 y237 [.slice Ao14 y237.length co14] (fun _ => True) (fun k_ => some k_ = (.slice Ao14 y237.length co14 : Value).ownBlock) rfl rfl ?aP (fun k_ hk_ => ((Kd.R_mono (ok' := fun k_ => ((fun _ => True)) k_ ∧ some k_ ≠ ((.slice Ao5 x5_1.length co5) : Value).ownBlock) (Kd.R_apart' (HO239.out) (Kd.S_typed HO_5.out) (by decide)) (fun k_ hk => ⟨trivial, hk.2⟩))).1 k_ hk_.symm) ?aF ?aO ?aB ?aS ?aL ?_; (case aP => exact Kd.M_row (Kd.R_mono (Kd.R_tight rfl (Kd.R_mono (ok' := fun k_ => ((fun _ => True)) k_ ∧ some k_ ≠ ((.slice Ao5 x5_1.length co5) : Value).ownBlock) (Kd.R_apart' (HO239.out) (Kd.S_typed HO_5.out) (by decide)) (fun k_ hk => ⟨trivial, hk.2⟩))) (fun _ h_ => h_))); (case aB => exact (by repeat (first | (with_reducible first | exact HB.out | apply below_alloc | apply pw_below_drewN | apply below_drew1) | exact HB.out))); (case aF => exact (fun _ _ => trivial)); (case aO => exact (by (with_reducible repeat (first | apply Kd.S_alloc | apply Kd.S_drewN | apply Kd.S_drew)); exact Kd.S_mono HO_5.out (fun k_ hk => ⟨trivial, fun e_ => hk.2 e_⟩))); (case aS => exact (below_size (by repeat (first | (with_reducible first | exact HB.out | apply below_alloc | apply pw_below_drewN | apply below_drew1) | exact HB.out)))); (case aL => have := LMc10.out; omega); intro v241 w13 ho hb hg hat; rw [← Ny240.out] at ho; have n0_ := Aside0.mk (hb); have n1_ := Aside0.mk (ho); clear HB; clear HO_5; clear HO239; have HB := n0_; have HO242 := n1_; clear n0_ n1_; clear ho hb hg hat))
                go_roundg k1
                case measure => have := HK1.out; omega
                case rel => exact ⟨(y240), (wrap64 (x12_1 + 1)), (by first | rfl | (simp; done) | (simp [*]; done)), H', ⟨by have := HK1.out; omega⟩, ⟨by (with_reducible repeat (first | apply Kd.S_alloc | apply Kd.S_drewN | apply Kd.S_drew)); exact HO242.out⟩, ⟨by repeat (first | (with_reducible first | exact HB.out | apply below_alloc | apply pw_below_drewN | apply below_drew1) | exact HB.out)⟩⟩
              · rw [if_neg c10] at H
                exact absurd H (by simp)
            · rw [if_neg c9] at H
              have c9b0 : decide (t236 < 0) = false := decide_eq_false c9
              clear c9
              by_cases c15 : 0 ≤ t236
              · rw [if_pos c15] at H
                have c15b0 : decide (0 ≤ t236) = true := decide_eq_true c15
                clear c15
                by_cases c16 : t236 < (x5_1.length : Int)
                · rw [if_pos c16] at H
                  have c16b0 : decide (t236 < (x5_1.length : Int)) = true := decide_eq_true c16
                  clear c16
                  by_cases c17 : (rd_L1 x5_1 t236).length < 17592186044416
                  · rw [if_pos c17] at H
                    have LMc17 := Aside0.mk c17
                    clear c17
                    obtain ⟨y244, hy244⟩ : ∃ y_ : List Int, y_ = ((rd_L1 x5_1 t236) ++ [rd l1 x12_1]) := ⟨_, rfl⟩
                    replace H : (impl_firstFit.l0 k1 l0 (x5_1.set (t236 : Int).toNat y244) l1 (l1.length : Int) (wrap64 (x12_1 + 1))) = some r := by first | (rw [hy244]; with_reducible exact H) | (have H2_ := (Option.bind_some _ _).symm.trans H; rw [hy244]; with_reducible exact H2_) | (have H2_ := (Option.bind_some _ _).symm.trans H; with_reducible exact H2_) | with_reducible exact H | (rw [hy244]; exact H) | exact H
                    have Ny244 := Aside0.mk hy244
                    clear hy244
                    obtain ⟨y247, hy247⟩ : ∃ y_ : List (List Int), y_ = (x5_1.set (t236 : Int).toNat y244) := ⟨_, rfl⟩
                    replace H : (impl_firstFit.l0 k1 l0 y247 l1 (l1.length : Int) (wrap64 (x12_1 + 1))) = some r := by first | (rw [hy247]; with_reducible exact H) | (have H2_ := (Option.bind_some _ _).symm.trans H; rw [hy247]; with_reducible exact H2_) | (have H2_ := (Option.bind_some _ _).symm.trans H; with_reducible exact H2_) | with_reducible exact H | (rw [hy247]; exact H) | exact H
                    have Ny247 := Aside0.mk hy247
                    clear hy247
                    have H' := Aside0.mk H
                    clear H
                    have p234 : 0 ≤ (x12_1 : Int) := of_decide_eq_true (by first | (with_reducible assumption) | assumption)
                    have q234 : x12_1 < (l1.length : Int) := of_decide_eq_true (by first | (with_reducible assumption) | assumption)
                    obtain ⟨ad234, e234, hx234_0⟩ := Kd.at_int HR1.out x12_1 p234 q234
                    cases e234
                    replace hx234_0 := (HB.out.cell (World.block_lt_of_cell? wa _ hx234_0)).trans hx234_0
                    replace p234 := eq_true p234
                    replace q234 := eq_true q234
                    have p235 : 0 ≤ (x12_1 : Int) := of_decide_eq_true (by first | (with_reducible assumption) | assumption)
                    have q235 : x12_1 < (l1.length : Int) := of_decide_eq_true (by first | (with_reducible assumption) | assumption)
                    obtain ⟨ad235, e235, hx235_0⟩ := Kd.at_int HR1.out x12_1 p235 q235
                    obtain rfl : ad234 = ad235 := (by injection e235)
                    replace hx235_0 := (HB.out.cell (World.block_lt_of_cell? wa _ hx235_0)).trans hx235_0
                    replace p235 := eq_true p235
                    replace q235 := eq_true q235
                    obtain ⟨Ao5, co5, eo5⟩ := Kd.S_slice HO_5.out
                    subst eo5
                    go_wp2_with (first | (go_at_call 56; generalize hw : wr.alloc (.cells #[.int .i64 (rd l1 x12_1)] 3) = w2; have hb2 : Below wr.heap.size wr w2 := (by rw [← hw]; exact (Below.refl wr.heap.size wr).alloc (Nat.le_refl _) _); have hk2 : w2.cell? ⟨wr.heap.size, 0, none⟩ = some (.int .i64 (rd l1 x12_1)) := (by rw [← hw]; simp); have hs2 : w2.heap.size = wr.heap.size + 1 := (by rw [← hw]; simp); have n0_ := Aside0.mk (Kd.S_below (Kd.S_mono (Kd.S_bound HO_5.out) (ok' := fun k_ => k_ ≠ wr.heap.size) (fun k_ hk_ => Nat.ne_of_lt hk_.2.2.1)) hb2); have n1_ := Aside0.mk (below_step HB.out hb2); have HIX := Aside0.mk (impl_firstFit.ixf w.heap.size wr.heap.size A0 c0 l0 (rd l1 x12_1) Ao5 co5 x5_1 t236 w2 ((n1_.out.cell (p := ⟨w.heap.size, 0, none⟩) (by have := HSZ.out; show w.heap.size < _; omega)).trans HBX.out) hk2 (Kd.C_below HR0.out n1_.out) HC0.out (Kd.S_reads' n0_.out).2.2 A8.out); refine HIX.out.mono ?_; rintro e w3 ⟨rfl, hb3⟩; have m0_ := Aside0.mk (Kd.S_below n0_.out hb3); have m1_ := Aside0.mk (below_step n1_.out hb3); have hk3 := (hb3.cell (p := ⟨wr.heap.size, 0, none⟩) (by show wr.heap.size < _; omega)).trans hk2; have HBK := Aside0.mk (show wr.heap.size < w3.heap.size from by have := hb3.size; omega); clear HO_5 HB hb3 HIX hw hb2 hk2 hs2 n0_ n1_; have HO_5 := m0_; have HB := m1_; clear m0_ m1_))
                    have n0_ := Aside0.mk (Kd.S_drew HO_5.out)
                    have n1_ := Aside0.mk (below_drew1 HB.out)
                    clear HO_5
                    clear HB
                    have HO_5 := n0_
                    have HB := n1_
                    clear n0_ n1_
                    obtain ⟨Ao20, co20, eo20⟩ := Kd.S_slice HO_5.out
                    (first | subst eo20 | (injection eo20 with f1_ f2_ f3_; have f4_ := f1_.symm; have f5_ := f3_.symm; clear f1_ f2_ f3_; subst f4_; subst f5_))
                    have p243 : 0 ≤ (t236 : Int) := of_decide_eq_true (by first | (with_reducible assumption) | assumption)
                    have q243 : t236 < (x5_1.length : Int) := of_decide_eq_true (by first | (with_reducible assumption) | assumption)
                    obtain ⟨ad243, A243_0, c243_0, e243, hx243_0, hl243_0, hi243_0⟩ := at_L1 (Kd.S_reads' HO_5.out).2.2 t236 p243 q243
                    cases e243
                    obtain ⟨ce243, hce243, hMe243, hcc243⟩ := Kd.S_get HO_5.out [] t236 p243 (by first | exact q243 | exact of_decide_eq_true (by first | (with_reducible assumption) | assumption) | (have e_ := (Kd.S_reads' HO_5.out).1; omega))
                    obtain ⟨ve243_0, rfl, ge243_0⟩ := hMe243
                    have hv243_0 := hcc243 0 _ rfl
                    rw [Nat.add_zero, show ((Kd.slice 3 (Kd.int .i64))).sz = 1 from rfl, Nat.mul_one] at hv243_0
                    replace hv243_0 := Option.some.inj (hv243_0.symm.trans hx243_0)
                    rw [hv243_0] at ge243_0
                    have HL243_0 := Aside0.mk (show Kd.R (Kd.int .i64) 3 _ _ _ _ (rd_L1 x5_1 t236) from ge243_0)
                    clear hv243_0 ge243_0
                    have HX243_0 := Aside0.mk hx243_0
                    clear hcc243 hce243
                    have HR243_0 := Aside0.mk hi243_0
                    have HC243_0 := Aside0.mk hl243_0
                    clear hi243_0 hl243_0
                    replace p243 := eq_true p243
                    replace q243 := eq_true q243
                    obtain ⟨go21, co21, eo21, gb21, gl21, cl21, HG21⟩ := Kd.S_form HO_5.out (by have h_ : (t236 : Int) < ((x5_1.length : Int) : Int) := of_decide_eq_true (by first | (with_reducible assumption) | assumption); have h2_ : 0 ≤ (t236 : Int) := (of_decide_eq_true (by first | (with_reducible assumption) | assumption)); omega)
                    (first | cases eo21 | (injection eo21 with ea_ en_ ec_; (first | subst ea_ | (injection ea_ with ea_; subst ea_)); subst ec_; clear en_))
                    have GB21 := Aside0.mk gb21
                    have GG21 := Aside0.mk HG21
                    clear gb21 gl21 HG21
                    (first | simp only [add_plain] at hx243_0 | skip)
                    obtain ⟨oki21, ce21, hcl21, hM21, hcc21, _, _, hH21⟩ := Kd.S_elem HO_5.out [] (t236 : Int) (of_decide_eq_true (by first | (with_reducible assumption) | assumption)) (by have h_ : (t236 : Int) < ((x5_1.length : Int) : Int) := of_decide_eq_true (by first | (with_reducible assumption) | assumption); first | exact h_ | (have e_ := (Kd.S_reads' HO_5.out).1; omega) | simpa using h_)
                    obtain ⟨ve21_0, rfl, ge21_0⟩ := hM21
                    have hv21 := hcc21 0 _ rfl
                    have hX21 := HX243_0.out
                    (try simp only [add_plain] at hX21)
                    (try simp only [Nat.add_zero] at hv21)
                    (try rw [show ((Kd.slice 3 (Kd.int .i64))).sz = 1 from rfl, Nat.mul_one] at hv21)
                    replace hv21 := Option.some.inj (hv21.symm.trans hX21)
                    subst hv21
                    clear hX21 hcc21 hcl21
                    have UU21 := Aside0.mk (show Kd.R (Kd.int .i64) 3 _ wa.heap.size oki21 (.slice A243_0 (rd_L1 x5_1 t236).length c243_0) (rd_L1 x5_1 t236) from ge21_0)
                    have HH21 := Aside0.mk hH21
                    have HN21 := Aside0.mk (Kd.S_reads' HO_5.out).1
                    clear hH21 ge21_0
                    have HBKd := Aside0.mk (show wr.heap.size < w3.drew.heap.size from HBK.out)
                    refine start_ (n := 11) (S := fun w' => w'.cell? ⟨go21, (t236).toNat, none⟩ = some (.slice A243_0 (rd_L1 x5_1 t236).length c243_0) ∧ w'.cell? ⟨wr.heap.size, 0, none⟩ = some (.int .i64 (rd l1 x12_1))) (ds := [10]) #[false, false, false, false, false, false, false, false, false, false, false] (by kernel_rfl) rfl rfl ⟨hx243_0, (show w3.drew.cell? _ = _ from hk3)⟩ (fun hHeld => ?_); refine with_tabW impl_firstFit.tab8 impl_firstFit.bits8 (fun HT_ HW_ => ?_)
                    clear hk3 HBK
                    generalize w3.drew = w19 at HO_5 HB GG21 HH21 HL243_0 HR243_0 HX243_0 UU21 hx243_0 HBKd hHeld ⊢
                    refine pure_ (i := 0) (N := some 26) (v := ?_) (a' := ?_) #[true, false, false, false, false, false, false, false, false, false, false] rfl rfl (any_of HT_.out (by kernel_rfl)) (fun _ _ _ h => h) (Or.inl ⟨by rfl, ?_⟩) ?_ ?_
                    rotate_left
                    · intro w'
                      go_simp
                      with_reducible rfl
                    rotate_left
                    · simp only [Act.put, List.setIfInBounds_toArray, List.set_cons_zero, List.set_cons_succ, i64_w, i32_w]
                      rfl
                    refine pure_ (i := 1) (N := some 27) (v := ?_) (a' := ?_) #[true, true, false, false, false, false, false, false, false, false, false] rfl rfl (any_of HT_.out (by kernel_rfl)) (fun _ _ _ h => h) (Or.inl ⟨by rfl, ?_⟩) ?_ ?_
                    rotate_left
                    · intro w'
                      go_simp
                      with_reducible rfl
                    rotate_left
                    · simp only [Act.put, List.setIfInBounds_toArray, List.set_cons_zero, List.set_cons_succ, i64_w, i32_w]
                      rfl
                    refine pure_ (i := 2) (N := some 28) (v := ?_) (a' := ?_) #[true, true, true, false, false, false, false, false, false, false, false] rfl rfl (any_of HT_.out (by kernel_rfl)) (fun _ _ _ h => h) (Or.inl ⟨by rfl, ?_⟩) ?_ ?_
                    rotate_left
                    · intro w'
                      go_simp
                      with_reducible rfl
                    rotate_left
                    · simp only [Act.put, List.setIfInBounds_toArray, List.set_cons_zero, List.set_cons_succ, i64_w, i32_w]
                      rfl
                    refine pure_ (i := 3) (N := some 29) (v := ?_) (a' := ?_) #[true, true, true, true, false, false, false, false, false, false, false] rfl rfl (any_of HT_.out (by kernel_rfl)) (fun _ _ _ h => h) (Or.inl ⟨by rfl, ?_⟩) ?_ ?_
                    rotate_left
                    · intro w'
                      go_simp
                      with_reducible rfl
                    rotate_left
                    · simp only [Act.put, List.setIfInBounds_toArray, List.set_cons_zero, List.set_cons_succ, i64_w, i32_w]
                      rfl
                    refine pure_ (i := 4) (N := some 30) (v := ?_) (a' := ?_) #[true, true, true, true, true, false, false, false, false, false, false] rfl rfl (any_of HT_.out (by kernel_rfl)) (fun _ _ _ h => h) (Or.inl ⟨by rfl, ?_⟩) ?_ ?_
                    rotate_left
                    · intro w'
                      go_simp
                      with_reducible rfl
                    rotate_left
                    · simp only [Act.put, List.setIfInBounds_toArray, List.set_cons_zero, List.set_cons_succ, i64_w, i32_w]
                      rfl
                    refine take_ (i := 5) (N := some 31) (v := ?_) (a' := ?_) #[true, true, true, true, true, true, false, false, false, false, false] rfl rfl (take_ofW HT_.out HW_.out (by kernel_rfl)) (fun _ _ _ h => h) (Or.inl ⟨by rfl, ?_⟩) hHeld ?_ ?_
                    rotate_left
                    · rintro w' ⟨s0, s1⟩
                      go_simp
                      with_reducible rfl
                    rotate_left
                    · simp only [Act.put, List.setIfInBounds_toArray, List.set_cons_zero, List.set_cons_succ, i64_w, i32_w]
                      rfl
                    refine take_ (i := 6) (N := some 32) (v := ?_) (a' := ?_) #[true, true, true, true, true, true, true, false, false, false, false] rfl rfl (take_ofW HT_.out HW_.out (by kernel_rfl)) (fun _ _ _ h => h) (Or.inl ⟨by rfl, ?_⟩) hHeld ?_ ?_
                    rotate_left
                    · rintro w' ⟨s0, s1⟩
                      go_simp
                      with_reducible rfl
                    rotate_left
                    · simp only [Act.put, List.setIfInBounds_toArray, List.set_cons_zero, List.set_cons_succ, i64_w, i32_w]
                      rfl
                    refine one_ (i := 7) (N := some 33) #[true, true, true, true, true, true, true, true, false, false, false] rfl rfl (one_of HT_.out (by kernel_rfl)) (by decide) (fun K hK => ?_)
                    refine value_ (w1 := ?_) (v := ?_) (by rfl) rfl ?_ ?_
                    rotate_left 2
                    · go_simp
                      constructor
                      · rfl
                      · rfl
                    refine hK.out _ _ ⟨(World.cell?_alloc_lt _ _ _ (World.block_lt_of_cell? _ _ hHeld.1)).trans hHeld.1, (World.cell?_alloc_lt _ _ _ (World.block_lt_of_cell? _ _ hHeld.2)).trans hHeld.2⟩ (fun hHeld => ?_)
                    clear hK K
                    refine norm_ (a' := ?_) ?_ ?_
                    rotate_left
                    · show Act.put _ (some 33) _ = _
                      simp only [Act.put, List.setIfInBounds_toArray, List.set_cons_zero, List.set_cons_succ, i64_w, i32_w]
                      rfl
                    refine one_ (i := 8) (N := some 34) #[true, true, true, true, true, true, true, true, true, false, false] rfl rfl (one_of HT_.out (by kernel_rfl)) (by decide) (fun K hK => ?_)
                    refine Kd.R_append_step (Kd.int .i64) (w0 := wa) wa.heap.size (by rfl) (.tmp 31) (.tmp 33) 22 3 (.int .i64 0) 8 rfl Try.underlying22 info3 rfl (by decide) (by omega) (.slice A243_0 (rd_L1 x5_1 t236).length c243_0) (rd_L1 x5_1 t236) (rd l1 x12_1) [.int .i64 (rd l1 x12_1)] (fun k_ => oki21 k_ ∨ (k_ ≠ wr.heap.size) ∧ w19.heap.size ≤ k_) (fun _ => False) rfl rfl ?aP (fun _ hk => hk.elim) ?aF ?aO ?aB ?aS ?aL ?_
                    (case aP => exact rfl)
                    (case aB => exact (by repeat (first | (with_reducible first | exact HB.out | apply below_alloc | apply pw_below_drewN | apply below_drew1) | exact HB.out)))
                    (case aF => exact (fun k_ hk => .inr ⟨(by have := HBKd.out; omega), hk⟩))
                    (case aO => exact (by (with_reducible repeat (first | apply Kd.R_alloc | apply Kd.R_drewN | apply Kd.R_drew)); exact Kd.R_mono UU21.out (fun _ hk => .inl hk)))
                    (case aS => exact (below_size (by repeat (first | (with_reducible first | exact HB.out | apply below_alloc | apply pw_below_drewN | apply below_drew1) | exact HB.out))))
                    (case aL => have := LMc17.out; omega)
                    intro v245 w22 ho hb hg hat
                    (first | have HS0_ := cell_grown hg (hHeld.1) (by first | (rw [add_block]; exact (fun e_ => ((HL243_0.out.1 _ e_.symm).2) rfl)) | (show some (Addr.add _ _).block ≠ _; rw [add_block]; exact (fun e_ => ((HL243_0.out.1 _ e_.symm).2) rfl)) | exact (fun e_ => ((HL243_0.out.1 _ e_.symm).2) rfl)) | have HS0_ := cell_grown hg (cell_unalloc (hHeld.1) (by first | (rw [add_block]; exact Kd.S_lt HO_5.out _ rfl) | (show (Addr.add _ _).block < _; rw [add_block]; exact Kd.S_lt HO_5.out _ rfl) | exact Kd.S_lt HO_5.out _ rfl)) (by first | (rw [add_block]; exact (fun e_ => ((HL243_0.out.1 _ e_.symm).2) rfl)) | (show some (Addr.add _ _).block ≠ _; rw [add_block]; exact (fun e_ => ((HL243_0.out.1 _ e_.symm).2) rfl)) | exact (fun e_ => ((HL243_0.out.1 _ e_.symm).2) rfl)))
                    (first | have HS1_ := cell_grown hg (hHeld.2) (fun e_ => ((HL243_0.out.1 _ e_.symm).1) rfl) | have HS1_ := cell_grown hg (cell_unalloc (hHeld.2) (by have := HBKd.out; show wr.heap.size < _; omega)) (fun e_ => ((HL243_0.out.1 _ e_.symm).1) rfl))
                    rw [← Ny244.out] at ho
                    have n0_ := Aside0.mk (hb)
                    have n1_ := Aside0.mk (Kd.H_grown (Kd.H_widen (by repeat (first | exact HH21.out | refine Kd.H_alloc ?_ _ | refine Kd.H_drewN ?_ _ | refine Kd.H_drew ?_))) hg (fun k_ e_ => .inl (UU21.out.1 k_ e_)))
                    have n2_ := Aside0.mk (ho)
                    clear HB
                    clear HH21
                    clear HO_5
                    clear UU21
                    clear HL243_0
                    have HB := n0_
                    have HH21 := n1_
                    have HO246 := n2_
                    clear n0_ n1_ n2_
                    clear ho hb hg hat
                    have p18 : 0 ≤ (t236 : Int) := of_decide_eq_true (by first | (with_reducible assumption) | assumption)
                    have q18 : (t236 : Int) < ((x5_1.length : Int) : Int) := of_decide_eq_true (by first | (with_reducible assumption) | assumption)
                    replace p18 := eq_true p18
                    replace q18 := eq_true q18
                    obtain ⟨Ao25, co25, eo25⟩ := Kd.R_slice HO246.out
                    (first | subst eo25 | (injection eo25 with f1_ f2_ f3_; have f4_ := f1_.symm; have f5_ := f3_.symm; clear f1_ f2_ f3_; subst f4_; subst f5_))
                    obtain ⟨_, _, hraw23, _, _, hcc23, _⟩ := Kd.H_raw HH21.out (of_decide_eq_true (by first | (with_reducible assumption) | assumption)) (by have h_ : (t236 : Int) < ((x5_1.length : Int) : Int) := of_decide_eq_true (by first | (with_reducible assumption) | assumption); first | exact h_ | (have e_ := (HN21.out); omega) | simpa using h_)
                    obtain ⟨_, hfr23⟩ := Kd.H_at HH21.out (of_decide_eq_true (by first | (with_reducible assumption) | assumption)) (by have h_ : (t236 : Int) < ((x5_1.length : Int) : Int) := of_decide_eq_true (by first | (with_reducible assumption) | assumption); first | exact h_ | (have e_ := (HN21.out); omega) | simpa using h_)
                    have hx23_0 := hcc23 0 _ rfl
                    have hf23_0 := hfr23 0
                    (try simp only [Nat.add_zero] at hx23_0 hf23_0)
                    (try rw [show ((Kd.slice 3 (Kd.int .i64))).sz = 1 from rfl, Nat.mul_one] at hx23_0)
                    (try rw [show ((Kd.slice 3 (Kd.int .i64))).sz = 1 from rfl, Nat.mul_one] at hf23_0)
                    have HP23 := Kd.S_seg0 HH21.out (of_decide_eq_true (by first | (with_reducible assumption) | assumption)) (by have h_ : (t236 : Int) < ((x5_1.length : Int) : Int) := of_decide_eq_true (by first | (with_reducible assumption) | assumption); first | exact h_ | (have e_ := (HN21.out); omega) | simpa using h_) (seg := [.slice Ao25 y244.length co25]) (j := 0) (show 1 ≤ 1 from by decide) (x' := y244) (Kd.M_row HO246.out) (fun _ hk => hk)
                    (try simp only [show ((Kd.slice 3 (Kd.int .i64))).sz = 1 from rfl, Nat.mul_one, Nat.add_zero] at HP23)
                    clear hcc23 hfr23
                    have HS23 := HP23.1
                    rw [← Ny247.out] at HS23
                    have HQ23 := Aside0.mk HS23
                    obtain ⟨_, hgg23⟩ := Kd.R_typed hraw23 go21 rfl
                    have GG23_ := Aside0.mk hgg23
                    clear HP23 HS23 hgg23
                    refine hK.out _ _ ⟨HS0_, HS1_⟩ (fun hHeld => ?_)
                    clear hK K
                    refine norm_ (a' := ?_) ?_ ?_
                    rotate_left
                    · show Act.put _ (some 34) _ = _
                      simp only [Act.put, List.setIfInBounds_toArray, List.set_cons_zero, List.set_cons_succ, i64_w, i32_w]
                      rfl
                    refine pure_ (i := 9) (N := some 35) (v := ?_) (a' := ?_) #[true, true, true, true, true, true, true, true, true, true, false] rfl rfl (any_of HT_.out (by kernel_rfl)) (fun _ _ _ h => h) (Or.inl ⟨by rfl, ?_⟩) ?_ ?_
                    rotate_left
                    · intro w'
                      go_simp
                      with_reducible rfl
                    rotate_left
                    · simp only [Act.put, List.setIfInBounds_toArray, List.set_cons_zero, List.set_cons_succ, i64_w, i32_w]
                      rfl
                    refine last_ (i := 10) (N := none) #[true, true, true, true, true, true, true, true, true, true, true] rfl rfl (one_of HT_.out (by kernel_rfl)) (by decide) (fun K hK => ?_)
                    refine skip_ (w1 := ?_) (by rfl) rfl ?_ ?_
                    rotate_left
                    · go_simp
                      rfl
                    refine hK.out _ _ ?_
                    clear hK K
                    refine done_ (done_of HT_.out (by kernel_rfl)) ?_
                    try go_wp2
                    go_roundg k1
                    case measure => have := HK1.out; omega
                    case rel => exact ⟨(y247), (wrap64 (x12_1 + 1)), (by first | rfl | (simp; done) | (simp [*]; done)), H', ⟨by have := HK1.out; omega⟩, ⟨by (with_reducible repeat (first | apply Kd.S_alloc | apply Kd.S_drewN | apply Kd.S_drew)); exact Kd.S_mono HQ23.out (fun _ _ => trivial)⟩, ⟨by repeat (first | (with_reducible first | exact HB.out | apply below_alloc | apply pw_below_drewN | apply below_drew1 | refine below_set ?_ GB21.out) | exact HB.out)⟩⟩
                  · rw [if_neg c17] at H
                    exact absurd H (by simp)
                · rw [if_neg c16] at H
                  exact absurd H (by simp)
              · rw [if_neg c15] at H
                exact absurd H (by simp)
          · rw [if_neg c7] at H
            exact absurd H (by simp)
        · rw [if_neg c6] at H
          exact absurd H (by simp)
      · rw [if_neg c5] at H
        have c5b0 : decide (x12_1 < (l1.length : Int)) = false := decide_eq_false c5
        clear c5
        obtain rfl := Option.some.inj H
        go_wp2
        go_ret
        exact ⟨_, rfl, Kd.S_lower (by (with_reducible repeat (first | apply Kd.S_alloc | apply Kd.S_drewN | apply Kd.S_drew)); exact HO_5.out) (by have := HSZ.out; omega), HBW.out.trans (Below.mono (by repeat (first | exact HB.out | apply pw_below_drewN | apply below_drew1)) (by have := HSZ.out; omega))⟩

/-! ### impl_FitSorted: function 25 -/
def impl_FitSorted.f (k : Nat) (l0 : List Int) : Option ((List (List Int)) × Bool) := (impl_GoodItems.f l0).bind fun t231 => (if t231 = true then ((impl_rank.f l0).bind fun t232 => ((impl_firstFit.f k l0 t232).bind fun t235 => (some (t235, true)))) else (some (([] : List (List Int)), false)))
theorem impl_FitSorted.mono : ∀ a0 k, LeO (impl_FitSorted.f k a0) (impl_FitSorted.f (k + 1) a0) := by
  intro a0 k
  unfold impl_FitSorted.f
  repeat' first
      | (with_reducible exact impl_firstFit.mono _ _ _)
      | (with_reducible exact LeO.refl _)
      | (with_reducible exact LeO.none _)
      | (with_reducible refine LeO.ite ?_ ?_)
      | (with_reducible refine LeO.bind ?_ (fun _ => ?_))
      | exact impl_firstFit.mono _ _ _
      | exact LeO.none _
      | refine LeO.ite ?_ ?_
      | refine LeO.bind ?_ (fun _ => ?_)
set_option maxHeartbeats 8000000 in
set_option maxRecDepth 100000 in
theorem impl_FitSorted.calls (k : Nat) (A0 : Option Addr) (c0 : Nat) (l0 : List Int) (r1 : List (List Int)) (r2 : Bool) (w : World) (hr0 : Kd.C (Kd.int .i64) w A0 l0.length l0) (hc0 : l0.length ≤ c0) (h : impl_FitSorted.f k l0 = some (r1, r2)) :
    Calls Try.prog 25 #[.slice A0 l0.length c0] w fun e w' => ∃ v0_ : Value, e = .returned (.tuple #[v0_, .bool r2]) ∧ Kd.S (Kd.slice 3 (Kd.int .i64)) 22 w' w.heap.size (fun _ => True) v0_ r1 ∧ Below w.heap.size w w' := by
  have HR0 := Aside0.mk hr0
  have HC0 := Aside0.mk hc0
  clear hr0 hc0
  have HB := Aside0.mk (Below.refl w.heap.size w)
  have H : ((impl_GoodItems.f l0).bind fun t231 => (if t231 = true then ((impl_rank.f l0).bind fun t232 => ((impl_firstFit.f k l0 t232).bind fun t235 => (some (t235, true)))) else (some (([] : List (List Int)), false)))) = some (r1, r2) := h
  clear h
  replace H := Option.bind_eq_some_iff.mp H
  obtain ⟨t231, A20, H⟩ := H
  replace H : (if t231 = true then ((impl_rank.f l0).bind fun t232 => ((impl_firstFit.f k l0 t232).bind fun t235 => (some (t235, true)))) else (some (([] : List (List Int)), false))) = some (r1, r2) := H
  have A2 := Aside0.mk A20
  clear A20
  by_cases c3 : t231 = true
  · subst c3
    have H1 : ((impl_rank.f l0).bind fun t232 => ((impl_firstFit.f k l0 t232).bind fun t235 => (some (t235, true)))) = some (r1, r2) := by rw [if_pos rfl] at H; exact H
    clear H
    have H := H1
    clear H1
    replace H := Option.bind_eq_some_iff.mp H
    obtain ⟨t232, A40, H⟩ := H
    replace H : ((impl_firstFit.f k l0 t232).bind fun t235 => (some (t235, true))) = some (r1, r2) := H
    have A4 := Aside0.mk A40
    clear A40
    replace H := Option.bind_eq_some_iff.mp H
    obtain ⟨t235, A50, H⟩ := H
    replace H : (some (t235, true)) = some (r1, r2) := H
    have A5 := Aside0.mk A50
    clear A50
    simp only [Option.some.injEq, Prod.mk.injEq] at H
    obtain ⟨rfl, rfl⟩ := H
    go_enter Try.func25, Try.ntmps25
    go_wp2_with (first | ((with_reducible refine gate_callee (f := 12) rfl ?_); refine goesL_ (some 5) rfl rfl Try.func12 (by kernel_rfl) rfl #[.slice A0 l0.length c0] rfl (by (try simp only [List.map_toArray, List.map_cons, List.map_nil]); first | done | rfl | (simp only [List.length_drop, List.length_take]; rfl)) ?_; (with_reducible refine (impl_GoodItems.calls _ _ l0 true _ ?side1 ?side2 A2.out).mono ?_); (case side1 => repeat (first | exact HR0.out | (with_reducible refine Kd.C_alloc ?_ _) | (with_reducible refine Kd.C_drewN ?_ _) | (with_reducible refine Kd.C_drew ?_))); (case side2 => exact HC0.out); rintro e w6 ⟨rfl, hb⟩; refine ⟨_, rfl, ?_⟩; have n0_ := Aside0.mk (below_step (by repeat (first | (with_reducible first | exact HB.out | apply below_alloc | apply pw_below_drewN | apply below_drew1) | exact HB.out)) hb); clear HB; have HB := n0_; clear n0_; (try clear hb); (try clear hb2); (try clear hk); (try clear hi)) | ((with_reducible refine gate_callee (f := 40) rfl ?_); refine goesL_ (some 9) rfl rfl Try.func40 (by kernel_rfl) rfl #[.slice A0 l0.length c0] rfl (by (try simp only [List.map_toArray, List.map_cons, List.map_nil]); first | done | rfl | (simp only [List.length_drop, List.length_take]; rfl)) ?_; (with_reducible refine (impl_rank.calls _ _ l0 t232 _ ?side1 ?side2 A4.out).mono ?_); (case side1 => repeat (first | exact (Kd.C_below HR0.out HB.out) | (with_reducible refine Kd.C_alloc ?_ _) | (with_reducible refine Kd.C_drewN ?_ _) | (with_reducible refine Kd.C_drew ?_))); (case side2 => exact HC0.out); rintro e w7 ⟨v233, rfl, ho0, hb⟩; refine ⟨_, rfl, ?_⟩; have n0_ := Aside0.mk (Kd.R_lower ho0 (below_size (by repeat (first | (with_reducible first | exact HB.out | apply below_alloc | apply pw_below_drewN | apply below_drew1) | exact HB.out)))); have n1_ := Aside0.mk (below_step (by repeat (first | (with_reducible first | exact HB.out | apply below_alloc | apply pw_below_drewN | apply below_drew1) | exact HB.out)) hb); clear HB; have HO234 := n0_; have HB := n1_; clear n0_ n1_; (try clear hb); (try clear hb2); (try clear hk); (try clear hi); (try clear ho0); obtain ⟨Ao8, co8, eo8⟩ := Kd.R_slice HO234.out; subst eo8) | ((with_reducible refine gate_callee (f := 42) rfl ?_); refine goesL_ (some 10) rfl rfl Try.func42 (by kernel_rfl) rfl #[.slice A0 l0.length c0, .slice Ao8 t232.length co8] rfl (by (try simp only [List.map_toArray, List.map_cons, List.map_nil]); first | done | rfl | (simp only [List.length_drop, List.length_take]; rfl)) ?_; (with_reducible refine (impl_firstFit.calls k _ _ l0 _ _ t232 t235 _ ?side1 ?side2 ?side3 ?side4 A5.out).mono ?_); (case side1 => repeat (first | exact (Kd.C_below HR0.out HB.out) | (with_reducible refine Kd.C_alloc ?_ _) | (with_reducible refine Kd.C_drewN ?_ _) | (with_reducible refine Kd.C_drew ?_))); (case side2 => exact HC0.out); (case side3 => repeat (first | exact (Kd.R_reads' HO234.out).2.2 | (with_reducible refine Kd.C_alloc ?_ _) | (with_reducible refine Kd.C_drewN ?_ _) | (with_reducible refine Kd.C_drew ?_))); (case side4 => exact (Kd.R_reads' HO234.out).2.1); rintro e w9 ⟨v236, rfl, ho0, hb⟩; refine ⟨_, rfl, ?_⟩; have n0_ := Aside0.mk (Kd.R_below (by (with_reducible repeat (first | apply Kd.R_alloc | apply Kd.R_drewN | apply Kd.R_drew)); exact HO234.out) hb); have n1_ := Aside0.mk (Kd.S_lower (Kd.S_new' ho0 (Kd.R_lt (by (with_reducible repeat (first | apply Kd.R_alloc | apply Kd.R_drewN | apply Kd.R_drew)); exact HO234.out))) (below_size (by repeat (first | (with_reducible first | exact HB.out | apply below_alloc | apply pw_below_drewN | apply below_drew1) | exact HB.out)))); have n2_ := Aside0.mk (below_step (by repeat (first | (with_reducible first | exact HB.out | apply below_alloc | apply pw_below_drewN | apply below_drew1) | exact HB.out)) hb); clear HO234; clear HB; have HO234 := n0_; have HO237 := n1_; have HB := n2_; clear n0_ n1_ n2_; (try clear hb); (try clear hb2); (try clear hk); (try clear hi); (try clear ho0)))
    go_ret2
    exact ⟨_, by first | rfl | (simp [errW_none, errW_some] <;> rfl) | (simp [*, errW_none, errW_some] <;> rfl), by (with_reducible repeat (first | apply Kd.S_alloc | apply Kd.S_drewN | apply Kd.S_drew)); exact Kd.S_mono HO237.out (fun _ hk => trivial), by repeat (first | (with_reducible first | exact HB.out | apply below_alloc | apply pw_below_drewN | apply below_drew1) | exact HB.out)⟩
  · replace c3 := Bool.eq_false_iff.mpr c3
    subst c3
    have H1 : (some (([] : List (List Int)), false)) = some (r1, r2) := by rw [if_neg (show ¬ (false = true) by decide)] at H; exact H
    clear H
    have H := H1
    clear H1
    simp only [Option.some.injEq, Prod.mk.injEq] at H
    obtain ⟨rfl, rfl⟩ := H
    go_enter Try.func25, Try.ntmps25
    go_wp2_with (first | ((with_reducible refine gate_callee (f := 12) rfl ?_); refine goesL_ (some 5) rfl rfl Try.func12 (by kernel_rfl) rfl #[.slice A0 l0.length c0] rfl (by (try simp only [List.map_toArray, List.map_cons, List.map_nil]); first | done | rfl | (simp only [List.length_drop, List.length_take]; rfl)) ?_; (with_reducible refine (impl_GoodItems.calls _ _ l0 false _ ?side1 ?side2 A2.out).mono ?_); (case side1 => repeat (first | exact HR0.out | (with_reducible refine Kd.C_alloc ?_ _) | (with_reducible refine Kd.C_drewN ?_ _) | (with_reducible refine Kd.C_drew ?_))); (case side2 => exact HC0.out); rintro e w10 ⟨rfl, hb⟩; refine ⟨_, rfl, ?_⟩; have n0_ := Aside0.mk (below_step (by repeat (first | (with_reducible first | exact HB.out | apply below_alloc | apply pw_below_drewN | apply below_drew1) | exact HB.out)) hb); clear HB; have HB := n0_; clear n0_; (try clear hb); (try clear hb2); (try clear hk); (try clear hi)))
    go_ret2
    exact ⟨_, by first | rfl | (simp [errW_none, errW_some] <;> rfl) | (simp [*, errW_none, errW_some] <;> rfl), by first | exact Kd.S_nil _ _ _ _ _ | exact Kd.N_nil _ _ _ _ _ | exact Kd.V_nil _ _ _ _ _ | exact Kd.Q_nil _ _ _ _ _ | exact Kd.R_nil _ _ _ _ _, by repeat (first | (with_reducible first | exact HB.out | apply below_alloc | apply pw_below_drewN | apply below_drew1) | exact HB.out)⟩

/-! ### laws_FnExactFitSorted: function 7 -/
def laws_FnExactFitSorted.f (k : Nat) (l0 : List Int) : Option (Bool) := if (l0.length : Int) > 1048576 then some true else ((laws_toIntS.f k l0).bind fun x8 => ((spec_FitSorted.f k x8).bind fun p => match p with | (x15, x16) => (if impl_FitSorted.f k x8 = some (x15, x16) then (if laws_eqIntSS.f k x15 x15 = some true then (if laws_eqIntS.f k x8 x8 = some true then ((laws_markIntS.f k x8 1).bind fun p => match p with | (t36, x37) => (if 0 ≤ t36 then ((laws_markIntSS.g x15 1).bind fun p => match p with | (t38, x39) => (if laws_heldIntSS.f k x39 1 = some t38 then (if 0 ≤ t38 then (some true) else none) else none)) else none)) else none) else none) else none)))
set_option maxHeartbeats 16000000 in
set_option maxRecDepth 100000 in
theorem laws_FnExactFitSorted.calls (k : Nat) (A0 : Option Addr) (c0 : Nat) (l0 : List Int) (r : Bool) (w : World) (hr0 : Kd.C (Kd.int .i64) w A0 l0.length l0) (hc0 : l0.length ≤ c0) (h : laws_FnExactFitSorted.f k l0 = some r) :
    Calls Try.prog 7 #[.slice A0 l0.length c0] w fun e w' => e = .returned (.bool r) ∧ Below w.heap.size w w' := by
  have HR0 := Aside0.mk hr0
  have HL0 := Aside0.mk hc0
  clear hr0 hc0
  unfold laws_FnExactFitSorted.f at h
  by_cases c53 : (l0.length : Int) > 1048576
  · rw [if_pos c53] at h
    obtain rfl := Option.some.inj h
    clear h
    have d1 : decide ((l0.length : Int) > 1048576) = true := decide_eq_true c53
    have d2 : decide (1048576 < (l0.length : Int)) = true := decide_eq_true c53
    clear c53
    go_enter Try.func7, Try.ntmps7
    have HB := Aside0.mk (Below.refl w.heap.size w)
    have HN := Aside0.mk (Nat.le_refl w.heap.size)
    go_wp2_with fail
    go_ret
    exact ⟨rfl, (by repeat (first | exact HB.out | apply pw_below_drewN | apply below_drew1))⟩
  rw [if_neg c53] at h
  have d54 : decide ((l0.length : Int) > 1048576) = false := decide_eq_false c53
  have d54b : decide (1048576 < (l0.length : Int)) = false := decide_eq_false c53
  clear c53
  replace h := Option.bind_eq_some_iff.mp h
  obtain ⟨x8, H550, h⟩ := h
  have H55 := Aside0.mk H550
  clear H550
  try dsimp only at h
  replace h := Option.bind_eq_some_iff.mp h
  obtain ⟨⟨x15, x16⟩, H560, h⟩ := h
  have H56 := Aside0.mk H560
  clear H560
  try dsimp only at h
  obtain ⟨H570, h⟩ := need_of h
  have H57 := Aside0.mk H570
  clear H570
  obtain ⟨H580, h⟩ := need_of h
  have H58 := Aside0.mk H580
  clear H580
  obtain ⟨H590, h⟩ := need_of h
  have H59 := Aside0.mk H590
  clear H590
  replace h := Option.bind_eq_some_iff.mp h
  obtain ⟨⟨t36, x37⟩, H600, h⟩ := h
  have H60 := Aside0.mk H600
  clear H600
  try dsimp only at h
  obtain ⟨H610, h⟩ := need_of h
  have H61 := Aside0.mk H610
  clear H610
  replace h := Option.bind_eq_some_iff.mp h
  obtain ⟨⟨t38, x39⟩, H620, h⟩ := h
  have H62 := Aside0.mk H620
  clear H620
  try dsimp only at h
  obtain ⟨H630, h⟩ := need_of h
  have H63 := Aside0.mk H630
  clear H630
  obtain ⟨H640, h⟩ := need_of h
  have H64 := Aside0.mk H640
  clear H640
  obtain rfl := Option.some.inj h
  clear h
  go_enter Try.func7, Try.ntmps7
  have HB := Aside0.mk (Below.refl w.heap.size w)
  have HN := Aside0.mk (Nat.le_refl w.heap.size)
  go_wp2_with fail
  go_at_call 11
  refine (laws_toIntS.calls k A0 c0 l0 x8 _ (Kd.C_below HR0.out (by repeat (first | exact HB.out | apply pw_below_drewN | apply below_drew1))) HL0.out H55.out).mono ?_
  rintro e w1 ⟨v4, rfl, hF5, hb⟩
  have HB2 := Aside0.mk (below_next (N := w.heap.size) (by repeat (first | exact HB.out | apply pw_below_drewN | apply below_drew1)) (by exact HN.out) (by omega) hb)
  obtain ⟨lo65, hi66, ho, hg⟩ := fresh_pts (N := w.heap.size) hb (by exact HN.out)
  have O67 := Aside0.mk (show w.heap.size ≤ lo65 ∧ lo65 ≤ hi66 from ⟨ho.1, ho.2.1⟩)
  have hF5b := R_in hF5 hg (B := w.heap.size) (by have := O67.out; omega)
  obtain ⟨A2, c3, rfl, hle, hC⟩ := Kd.R_reads hF5b
  have HC6 := Aside0.mk hC
  have HL7 := Aside0.mk hle
  clear hle hC
  have F5 := Aside0.mk (show Kd.R (Kd.int .i64) 3 w1 w.heap.size (fun k_ => (lo65 ≤ k_ ∧ k_ < hi66) ∧ True) (.slice A2 x8.length c3) x8 from hF5b)
  clear hF5 hF5b
  replace HN := Aside0.mk (show hi66 ≤ w1.heap.size from ho.2.2)
  clear ho hg
  replace HB := HB2
  clear HB2 hb
  go_wp2_with fail
  go_at_call 24
  refine (spec_FitSorted.calls k A2 c3 x8 x15 x16 _ (by (with_reducible repeat (first | apply Kd.C_drewN | apply Kd.C_drew)); exact HC6.out) HL7.out H56.out).mono ?_
  rintro e w2 ⟨v11, rfl, hF12, hb⟩
  have HB2 := Aside0.mk (below_next (N := hi66) (by repeat (first | exact HB.out | apply pw_below_drewN | apply below_drew1)) (by exact HN.out) (by have := O67.out; omega) hb)
  replace F5 := Aside0.mk (show Kd.R (Kd.int .i64) 3 w2 w.heap.size (fun k_ => (lo65 ≤ k_ ∧ k_ < hi66) ∧ True) (.slice A2 x8.length c3) x8 from Kd.R_below (by (with_reducible repeat (first | apply Kd.R_drewN | apply Kd.R_drew)); exact F5.out) hb)
  replace HC6 := Aside0.mk (show Kd.C (Kd.int .i64) w2 A2 x8.length x8 from Kd.C_below (by (with_reducible repeat (first | apply Kd.C_drewN | apply Kd.C_drew)); exact HC6.out) hb)
  obtain ⟨lo68, hi69, ho, hg⟩ := fresh_pts (N := hi66) hb (by exact HN.out)
  have O70 := Aside0.mk (show hi66 ≤ lo68 ∧ lo68 ≤ hi69 from ⟨ho.1, ho.2.1⟩)
  have hF12b := S_in hF12 hg (B := w.heap.size) (by have := O67.out; have := O70.out; omega)
  obtain ⟨A9, c10, rfl, hle, hC⟩ := Kd.S_reads hF12b
  have HC13 := Aside0.mk hC
  have HL14 := Aside0.mk hle
  clear hle hC
  have F12 := Aside0.mk (show Kd.S (Kd.slice 3 (Kd.int .i64)) 22 w2 w.heap.size (fun k_ => (lo68 ≤ k_ ∧ k_ < hi69) ∧ True) (.slice A9 x15.length c10) x15 from hF12b)
  clear hF12 hF12b
  replace HN := Aside0.mk (show hi69 ≤ w2.heap.size from ho.2.2)
  clear ho hg
  replace HB := HB2
  clear HB2 hb
  clear F5 HC6
  go_wp2_with fail
  go_at_call 11
  refine (laws_toIntS.calls k A0 c0 l0 x8 _ (Kd.C_below HR0.out (by repeat (first | exact HB.out | apply pw_below_drewN | apply below_drew1))) HL0.out H55.out).mono ?_
  rintro e w3 ⟨v19, rfl, hF20, hb⟩
  have HB2 := Aside0.mk (below_next (N := hi69) (by repeat (first | exact HB.out | apply pw_below_drewN | apply below_drew1)) (by exact HN.out) (by have := O67.out; have := O70.out; omega) hb)
  replace F12 := Aside0.mk (show Kd.S (Kd.slice 3 (Kd.int .i64)) 22 w3 w.heap.size (fun k_ => (lo68 ≤ k_ ∧ k_ < hi69) ∧ True) (.slice A9 x15.length c10) x15 from Kd.S_below (by (with_reducible repeat (first | apply Kd.S_drewN | apply Kd.S_drew)); exact F12.out) hb)
  replace HC13 := Aside0.mk (show Kd.C (Kd.slice 3 (Kd.int .i64)) w3 A9 x15.length x15 from Kd.C_below (by (with_reducible repeat (first | apply Kd.C_drewN | apply Kd.C_drew)); exact HC13.out) hb)
  obtain ⟨lo71, hi72, ho, hg⟩ := fresh_pts (N := hi69) hb (by exact HN.out)
  have O73 := Aside0.mk (show hi69 ≤ lo71 ∧ lo71 ≤ hi72 from ⟨ho.1, ho.2.1⟩)
  have hF20b := R_in hF20 hg (B := w.heap.size) (by have := O67.out; have := O70.out; have := O73.out; omega)
  obtain ⟨A17, c18, rfl, hle, hC⟩ := Kd.R_reads hF20b
  have HC21 := Aside0.mk hC
  have HL22 := Aside0.mk hle
  clear hle hC
  have F20 := Aside0.mk (show Kd.R (Kd.int .i64) 3 w3 w.heap.size (fun k_ => (lo71 ≤ k_ ∧ k_ < hi72) ∧ True) (.slice A17 x8.length c18) x8 from hF20b)
  clear hF20 hF20b
  replace HN := Aside0.mk (show hi72 ≤ w3.heap.size from ho.2.2)
  clear ho hg
  replace HB := HB2
  clear HB2 hb
  go_wp2_with fail
  go_at_call 25
  refine (impl_FitSorted.calls k A17 c18 x8 x15 x16 _ (by (with_reducible repeat (first | apply Kd.C_drewN | apply Kd.C_drew)); exact HC21.out) HL22.out H57.out).mono ?_
  rintro e w4 ⟨v25, rfl, hF26, hb⟩
  have HB2 := Aside0.mk (below_next (N := hi72) (by repeat (first | exact HB.out | apply pw_below_drewN | apply below_drew1)) (by exact HN.out) (by have := O67.out; have := O70.out; have := O73.out; omega) hb)
  replace F12 := Aside0.mk (show Kd.S (Kd.slice 3 (Kd.int .i64)) 22 w4 w.heap.size (fun k_ => (lo68 ≤ k_ ∧ k_ < hi69) ∧ True) (.slice A9 x15.length c10) x15 from Kd.S_below (by (with_reducible repeat (first | apply Kd.S_drewN | apply Kd.S_drew)); exact F12.out) hb)
  replace HC13 := Aside0.mk (show Kd.C (Kd.slice 3 (Kd.int .i64)) w4 A9 x15.length x15 from Kd.C_below (by (with_reducible repeat (first | apply Kd.C_drewN | apply Kd.C_drew)); exact HC13.out) hb)
  replace F20 := Aside0.mk (show Kd.R (Kd.int .i64) 3 w4 w.heap.size (fun k_ => (lo71 ≤ k_ ∧ k_ < hi72) ∧ True) (.slice A17 x8.length c18) x8 from Kd.R_below (by (with_reducible repeat (first | apply Kd.R_drewN | apply Kd.R_drew)); exact F20.out) hb)
  replace HC21 := Aside0.mk (show Kd.C (Kd.int .i64) w4 A17 x8.length x8 from Kd.C_below (by (with_reducible repeat (first | apply Kd.C_drewN | apply Kd.C_drew)); exact HC21.out) hb)
  obtain ⟨lo74, hi75, ho, hg⟩ := fresh_pts (N := hi72) hb (by exact HN.out)
  have O76 := Aside0.mk (show hi72 ≤ lo74 ∧ lo74 ≤ hi75 from ⟨ho.1, ho.2.1⟩)
  have hF26b := S_in hF26 hg (B := w.heap.size) (by have := O67.out; have := O70.out; have := O73.out; have := O76.out; omega)
  obtain ⟨A23, c24, rfl, hle, hC⟩ := Kd.S_reads hF26b
  have HC27 := Aside0.mk hC
  have HL28 := Aside0.mk hle
  clear hle hC
  have F26 := Aside0.mk (show Kd.S (Kd.slice 3 (Kd.int .i64)) 22 w4 w.heap.size (fun k_ => (lo74 ≤ k_ ∧ k_ < hi75) ∧ True) (.slice A23 x15.length c24) x15 from hF26b)
  clear hF26 hF26b
  replace HN := Aside0.mk (show hi75 ≤ w4.heap.size from ho.2.2)
  clear ho hg
  replace HB := HB2
  clear HB2 hb
  go_wp2_with fail
  go_at_call 20
  refine (laws_eqIntSS.calls k A23 c24 x15 A9 c10 x15 true _ (by (with_reducible repeat (first | apply Kd.C_drewN | apply Kd.C_drew)); exact HC27.out) HL28.out (by (with_reducible repeat (first | apply Kd.C_drewN | apply Kd.C_drew)); exact HC13.out) HL14.out H58.out).mono ?_
  rintro e w_77 ⟨rfl, ⟨nd78, rfl⟩⟩
  go_wp2_with fail
  go_at_call 11
  refine (laws_toIntS.calls k A0 c0 l0 x8 _ (Kd.C_below HR0.out (by repeat (first | exact HB.out | apply pw_below_drewN | apply below_drew1))) HL0.out H55.out).mono ?_
  rintro e w5 ⟨v32, rfl, hF33, hb⟩
  have HB2 := Aside0.mk (below_next (N := hi75) (by repeat (first | exact HB.out | apply pw_below_drewN | apply below_drew1)) (by exact HN.out) (by have := O67.out; have := O70.out; have := O73.out; have := O76.out; omega) hb)
  replace F12 := Aside0.mk (show Kd.S (Kd.slice 3 (Kd.int .i64)) 22 w5 w.heap.size (fun k_ => (lo68 ≤ k_ ∧ k_ < hi69) ∧ True) (.slice A9 x15.length c10) x15 from Kd.S_below (by (with_reducible repeat (first | apply Kd.S_drewN | apply Kd.S_drew)); exact F12.out) hb)
  replace HC13 := Aside0.mk (show Kd.C (Kd.slice 3 (Kd.int .i64)) w5 A9 x15.length x15 from Kd.C_below (by (with_reducible repeat (first | apply Kd.C_drewN | apply Kd.C_drew)); exact HC13.out) hb)
  replace F20 := Aside0.mk (show Kd.R (Kd.int .i64) 3 w5 w.heap.size (fun k_ => (lo71 ≤ k_ ∧ k_ < hi72) ∧ True) (.slice A17 x8.length c18) x8 from Kd.R_below (by (with_reducible repeat (first | apply Kd.R_drewN | apply Kd.R_drew)); exact F20.out) hb)
  replace HC21 := Aside0.mk (show Kd.C (Kd.int .i64) w5 A17 x8.length x8 from Kd.C_below (by (with_reducible repeat (first | apply Kd.C_drewN | apply Kd.C_drew)); exact HC21.out) hb)
  replace F26 := Aside0.mk (show Kd.S (Kd.slice 3 (Kd.int .i64)) 22 w5 w.heap.size (fun k_ => (lo74 ≤ k_ ∧ k_ < hi75) ∧ True) (.slice A23 x15.length c24) x15 from Kd.S_below (by (with_reducible repeat (first | apply Kd.S_drewN | apply Kd.S_drew)); exact F26.out) hb)
  replace HC27 := Aside0.mk (show Kd.C (Kd.slice 3 (Kd.int .i64)) w5 A23 x15.length x15 from Kd.C_below (by (with_reducible repeat (first | apply Kd.C_drewN | apply Kd.C_drew)); exact HC27.out) hb)
  obtain ⟨lo79, hi80, ho, hg⟩ := fresh_pts (N := hi75) hb (by exact HN.out)
  have O81 := Aside0.mk (show hi75 ≤ lo79 ∧ lo79 ≤ hi80 from ⟨ho.1, ho.2.1⟩)
  have hF33b := R_in hF33 hg (B := w.heap.size) (by have := O67.out; have := O70.out; have := O73.out; have := O76.out; have := O81.out; omega)
  obtain ⟨A30, c31, rfl, hle, hC⟩ := Kd.R_reads hF33b
  have HC34 := Aside0.mk hC
  have HL35 := Aside0.mk hle
  clear hle hC
  have F33 := Aside0.mk (show Kd.R (Kd.int .i64) 3 w5 w.heap.size (fun k_ => (lo79 ≤ k_ ∧ k_ < hi80) ∧ True) (.slice A30 x8.length c31) x8 from hF33b)
  clear hF33 hF33b
  replace HN := Aside0.mk (show hi80 ≤ w5.heap.size from ho.2.2)
  clear ho hg
  replace HB := HB2
  clear HB2 hb
  go_wp2_with fail
  go_at_call 13
  refine (laws_eqIntS.calls k A17 c18 x8 A30 c31 x8 true _ (by (with_reducible repeat (first | apply Kd.C_drewN | apply Kd.C_drew)); exact HC21.out) HL22.out (by (with_reducible repeat (first | apply Kd.C_drewN | apply Kd.C_drew)); exact HC34.out) HL35.out H59.out).mono ?_
  rintro e w_82 ⟨rfl, ⟨nd83, rfl⟩⟩
  clear F33 HC34
  go_wp2_with fail
  go_at_call 21
  refine (laws_markIntS.calls k (fun k_ => some k_ = (.slice A17 x8.length c18 : Value).ownBlock) (.slice A17 x8.length c18) x8 1 t36 x37 w _ (by repeat (first | exact HB.out | apply pw_below_drewN | apply below_drew1)) (Kd.R_tight rfl (by (with_reducible repeat (first | apply Kd.R_drewN | apply Kd.R_drew)); exact F20.out)) H60.out).mono ?_
  rintro e w6 ⟨rfl, hF0, hB2, hK⟩
  replace F12 := Aside0.mk (show Kd.S (Kd.slice 3 (Kd.int .i64)) 22 w6 w.heap.size (fun k_ => (lo68 ≤ k_ ∧ k_ < hi69) ∧ True) (.slice A9 x15.length c10) x15 from Kd.S_kept (S := (fun k_ => some k_ = (.slice A17 x8.length c18 : Value).ownBlock)) (by (with_reducible repeat (first | apply Kd.S_drewN | apply Kd.S_drew)); exact F12.out) hK (fun k_ h1_ h2_ => (fun e_ => by have h3_ := h1_.1; have h4_ := (F20.out.1 k_ e_.symm).1; have := O67.out; have := O70.out; have := O73.out; have := O76.out; have := O81.out; omega) h2_))
  replace HC13 := Aside0.mk (show Kd.C (Kd.slice 3 (Kd.int .i64)) w6 A9 x15.length x15 from (Kd.S_reads' F12.out).2.2)
  replace F26 := Aside0.mk (show Kd.S (Kd.slice 3 (Kd.int .i64)) 22 w6 w.heap.size (fun k_ => (lo74 ≤ k_ ∧ k_ < hi75) ∧ True) (.slice A23 x15.length c24) x15 from Kd.S_kept (S := (fun k_ => some k_ = (.slice A17 x8.length c18 : Value).ownBlock)) (by (with_reducible repeat (first | apply Kd.S_drewN | apply Kd.S_drew)); exact F26.out) hK (fun k_ h1_ h2_ => (fun e_ => by have h3_ := h1_.1; have h4_ := (F20.out.1 k_ e_.symm).1; have := O67.out; have := O70.out; have := O73.out; have := O76.out; have := O81.out; omega) h2_))
  replace HC27 := Aside0.mk (show Kd.C (Kd.slice 3 (Kd.int .i64)) w6 A23 x15.length x15 from (Kd.S_reads' F26.out).2.2)
  clear F20 HC21
  replace HN := Aside0.mk (show hi80 ≤ w6.heap.size from Nat.le_trans HN.out hK.1)
  replace HB := Aside0.mk hB2
  clear hB2 hK hF0
  have d85 : decide (t36 < 0) = false := decide_eq_false (by have := H61.out; omega)
  go_wp2_with fail
  go_at_call 20
  refine (laws_eqIntSS.calls k A23 c24 x15 A9 c10 x15 true _ (by (with_reducible repeat (first | apply Kd.C_drewN | apply Kd.C_drew)); exact HC27.out) HL28.out (by (with_reducible repeat (first | apply Kd.C_drewN | apply Kd.C_drew)); exact HC13.out) HL14.out H58.out).mono ?_
  rintro e w_86 ⟨rfl, ⟨nd87, rfl⟩⟩
  go_wp2_with fail
  go_at_call 22
  refine (laws_markIntSS.marks (fun k_ => (lo74 ≤ k_ ∧ k_ < hi75) ∧ True) (.slice A23 x15.length c24) x15 1 t38 x39 w _ (by repeat (first | exact HB.out | apply pw_below_drewN | apply below_drew1)) (by (with_reducible repeat (first | apply Kd.S_drewN | apply Kd.S_drew)); exact F26.out) H62.out).mono ?_
  rintro e w7 ⟨rfl, hF0, hB2, hK⟩
  replace F12 := Aside0.mk (show Kd.S (Kd.slice 3 (Kd.int .i64)) 22 w7 w.heap.size (fun k_ => (lo68 ≤ k_ ∧ k_ < hi69) ∧ True) (.slice A9 x15.length c10) x15 from Kd.S_kept (S := (fun k_ => (lo74 ≤ k_ ∧ k_ < hi75) ∧ True)) (by (with_reducible repeat (first | apply Kd.S_drewN | apply Kd.S_drew)); exact F12.out) hK (fun k_ h1_ h2_ => by have h3_ := h1_.1; have h4_ := h2_.1; have := O67.out; have := O70.out; have := O73.out; have := O76.out; have := O81.out; omega))
  replace HC13 := Aside0.mk (show Kd.C (Kd.slice 3 (Kd.int .i64)) w7 A9 x15.length x15 from (Kd.S_reads' F12.out).2.2)
  replace F26 := Aside0.mk (show Kd.S (Kd.slice 3 (Kd.int .i64)) 22 w7 w.heap.size (fun k_ => (lo74 ≤ k_ ∧ k_ < hi75) ∧ True) (.slice A23 x15.length c24) x39 from hF0)
  replace HC27 := Aside0.mk (show Kd.C (Kd.slice 3 (Kd.int .i64)) w7 A23 x39.length x39 from (Kd.S_reads' F26.out).2.2)
  have HQ88 := Aside0.mk (show x15.length = x39.length from (Kd.S_reads' F26.out).1)
  replace HL28 := Aside0.mk (show x39.length ≤ c24 from by rw [← HQ88.out]; exact HL28.out)
  replace HN := Aside0.mk (show hi80 ≤ w7.heap.size from Nat.le_trans HN.out hK.1)
  replace HB := Aside0.mk hB2
  clear hB2 hK hF0
  go_wp2_with fail
  go_at_call 23
  refine calls_of_args (args' := #[.slice A23 x39.length c24, .int .i64 1]) (by rw [HQ88.out]) ?_
  refine (laws_heldIntSS.calls k A23 c24 x39 1 t38 _ (by (with_reducible repeat (first | apply Kd.C_drewN | apply Kd.C_drew)); exact HC27.out) HL28.out H63.out).mono ?_
  rintro e w_89 ⟨rfl, ⟨nd90, rfl⟩⟩
  have d91 : decide (t38 < 0) = false := decide_eq_false (by have := H64.out; omega)
  go_wp2_with fail
  go_at_call 11
  refine (laws_toIntS.calls k A0 c0 l0 x8 _ (Kd.C_below HR0.out (by repeat (first | exact HB.out | apply pw_below_drewN | apply below_drew1))) HL0.out H55.out).mono ?_
  rintro e w8 ⟨v43, rfl, hF44, hb⟩
  have HB2 := Aside0.mk (below_next (N := hi80) (by repeat (first | exact HB.out | apply pw_below_drewN | apply below_drew1)) (by exact HN.out) (by have := O67.out; have := O70.out; have := O73.out; have := O76.out; have := O81.out; omega) hb)
  replace F12 := Aside0.mk (show Kd.S (Kd.slice 3 (Kd.int .i64)) 22 w8 w.heap.size (fun k_ => (lo68 ≤ k_ ∧ k_ < hi69) ∧ True) (.slice A9 x15.length c10) x15 from Kd.S_below (by (with_reducible repeat (first | apply Kd.S_drewN | apply Kd.S_drew)); exact F12.out) hb)
  replace HC13 := Aside0.mk (show Kd.C (Kd.slice 3 (Kd.int .i64)) w8 A9 x15.length x15 from Kd.C_below (by (with_reducible repeat (first | apply Kd.C_drewN | apply Kd.C_drew)); exact HC13.out) hb)
  replace F26 := Aside0.mk (show Kd.S (Kd.slice 3 (Kd.int .i64)) 22 w8 w.heap.size (fun k_ => (lo74 ≤ k_ ∧ k_ < hi75) ∧ True) (.slice A23 x15.length c24) x39 from Kd.S_below (by (with_reducible repeat (first | apply Kd.S_drewN | apply Kd.S_drew)); exact F26.out) hb)
  replace HC27 := Aside0.mk (show Kd.C (Kd.slice 3 (Kd.int .i64)) w8 A23 x39.length x39 from Kd.C_below (by (with_reducible repeat (first | apply Kd.C_drewN | apply Kd.C_drew)); exact HC27.out) hb)
  obtain ⟨lo92, hi93, ho, hg⟩ := fresh_pts (N := hi80) hb (by exact HN.out)
  have O94 := Aside0.mk (show hi80 ≤ lo92 ∧ lo92 ≤ hi93 from ⟨ho.1, ho.2.1⟩)
  have hF44b := R_in hF44 hg (B := w.heap.size) (by have := O67.out; have := O70.out; have := O73.out; have := O76.out; have := O81.out; have := O94.out; omega)
  obtain ⟨A41, c42, rfl, hle, hC⟩ := Kd.R_reads hF44b
  have HC45 := Aside0.mk hC
  have HL46 := Aside0.mk hle
  clear hle hC
  have F44 := Aside0.mk (show Kd.R (Kd.int .i64) 3 w8 w.heap.size (fun k_ => (lo92 ≤ k_ ∧ k_ < hi93) ∧ True) (.slice A41 x8.length c42) x8 from hF44b)
  clear hF44 hF44b
  replace HN := Aside0.mk (show hi93 ≤ w8.heap.size from ho.2.2)
  clear ho hg
  replace HB := HB2
  clear HB2 hb
  go_wp2_with fail
  go_at_call 25
  refine (impl_FitSorted.calls k A41 c42 x8 x15 x16 _ (by (with_reducible repeat (first | apply Kd.C_drewN | apply Kd.C_drew)); exact HC45.out) HL46.out H57.out).mono ?_
  rintro e w9 ⟨v49, rfl, hF50, hb⟩
  have HB2 := Aside0.mk (below_next (N := hi93) (by repeat (first | exact HB.out | apply pw_below_drewN | apply below_drew1)) (by exact HN.out) (by have := O67.out; have := O70.out; have := O73.out; have := O76.out; have := O81.out; have := O94.out; omega) hb)
  replace F12 := Aside0.mk (show Kd.S (Kd.slice 3 (Kd.int .i64)) 22 w9 w.heap.size (fun k_ => (lo68 ≤ k_ ∧ k_ < hi69) ∧ True) (.slice A9 x15.length c10) x15 from Kd.S_below (by (with_reducible repeat (first | apply Kd.S_drewN | apply Kd.S_drew)); exact F12.out) hb)
  replace HC13 := Aside0.mk (show Kd.C (Kd.slice 3 (Kd.int .i64)) w9 A9 x15.length x15 from Kd.C_below (by (with_reducible repeat (first | apply Kd.C_drewN | apply Kd.C_drew)); exact HC13.out) hb)
  replace F26 := Aside0.mk (show Kd.S (Kd.slice 3 (Kd.int .i64)) 22 w9 w.heap.size (fun k_ => (lo74 ≤ k_ ∧ k_ < hi75) ∧ True) (.slice A23 x15.length c24) x39 from Kd.S_below (by (with_reducible repeat (first | apply Kd.S_drewN | apply Kd.S_drew)); exact F26.out) hb)
  replace HC27 := Aside0.mk (show Kd.C (Kd.slice 3 (Kd.int .i64)) w9 A23 x39.length x39 from Kd.C_below (by (with_reducible repeat (first | apply Kd.C_drewN | apply Kd.C_drew)); exact HC27.out) hb)
  replace F44 := Aside0.mk (show Kd.R (Kd.int .i64) 3 w9 w.heap.size (fun k_ => (lo92 ≤ k_ ∧ k_ < hi93) ∧ True) (.slice A41 x8.length c42) x8 from Kd.R_below (by (with_reducible repeat (first | apply Kd.R_drewN | apply Kd.R_drew)); exact F44.out) hb)
  replace HC45 := Aside0.mk (show Kd.C (Kd.int .i64) w9 A41 x8.length x8 from Kd.C_below (by (with_reducible repeat (first | apply Kd.C_drewN | apply Kd.C_drew)); exact HC45.out) hb)
  obtain ⟨lo95, hi96, ho, hg⟩ := fresh_pts (N := hi93) hb (by exact HN.out)
  have O97 := Aside0.mk (show hi93 ≤ lo95 ∧ lo95 ≤ hi96 from ⟨ho.1, ho.2.1⟩)
  have hF50b := S_in hF50 hg (B := w.heap.size) (by have := O67.out; have := O70.out; have := O73.out; have := O76.out; have := O81.out; have := O94.out; have := O97.out; omega)
  obtain ⟨A47, c48, rfl, hle, hC⟩ := Kd.S_reads hF50b
  have HC51 := Aside0.mk hC
  have HL52 := Aside0.mk hle
  clear hle hC
  have F50 := Aside0.mk (show Kd.S (Kd.slice 3 (Kd.int .i64)) 22 w9 w.heap.size (fun k_ => (lo95 ≤ k_ ∧ k_ < hi96) ∧ True) (.slice A47 x15.length c48) x15 from hF50b)
  clear hF50 hF50b
  replace HN := Aside0.mk (show hi96 ≤ w9.heap.size from ho.2.2)
  clear ho hg
  replace HB := HB2
  clear HB2 hb
  clear F44 HC45
  go_wp2_with fail
  go_at_call 20
  refine (laws_eqIntSS.calls k A47 c48 x15 A9 c10 x15 true _ (by (with_reducible repeat (first | apply Kd.C_drewN | apply Kd.C_drew)); exact HC51.out) HL52.out (by (with_reducible repeat (first | apply Kd.C_drewN | apply Kd.C_drew)); exact HC13.out) HL14.out H58.out).mono ?_
  rintro e w_98 ⟨rfl, ⟨nd99, rfl⟩⟩
  clear F12 HC13
  clear F50 HC51
  go_wp2_with fail
  go_at_call 23
  refine calls_of_args (args' := #[.slice A23 x39.length c24, .int .i64 1]) (by rw [HQ88.out]) ?_
  refine (laws_heldIntSS.calls k A23 c24 x39 1 t38 _ (by (with_reducible repeat (first | apply Kd.C_drewN | apply Kd.C_drew)); exact HC27.out) HL28.out H63.out).mono ?_
  rintro e w_100 ⟨rfl, ⟨nd101, rfl⟩⟩
  clear F26 HC27
  have d102 : decide (t38 < 0) = false := decide_eq_false (by have := H64.out; omega)
  go_wp2_with fail
  go_ret
  exact ⟨rfl, (by repeat (first | exact HB.out | apply pw_below_drewN | apply below_drew1))⟩

/-- THE ONE PURE STATEMENT of laws_FnExactFitSorted. -/
def laws_FnExactFitSorted.Pure : Prop := ∀ (l0 : List Int), (l0.length ≤ maxLen ∧ ∀ x ∈ l0, (Lit.int .i64 x).wf = true) → ∃ k, laws_FnExactFitSorted.f k l0 = some true
theorem laws_FnExactFitSorted.walk (P : laws_FnExactFitSorted.Pure) (A0 : Option Addr) (c0 : Nat) (l0 : List Int) (w : World) (hr0 : Kd.C (Kd.int .i64) w A0 l0.length l0) (hc0 : l0.length ≤ c0) (hw0 : (l0.length ≤ maxLen ∧ ∀ x ∈ l0, (Lit.int .i64 x).wf = true)) :
    Calls Try.prog 7 #[.slice A0 l0.length c0] w fun e w' => e = .returned (.bool true) ∧ Below w.heap.size w w' := by
  obtain ⟨k, h⟩ := P l0 hw0
  refine (laws_FnExactFitSorted.calls k _ _ l0 true w hr0 hc0 h).mono ?_
  rintro e w' ⟨rfl, hd⟩
  exact ⟨rfl, hd⟩

end Go.Proofs.Ytojoglgjfocgiaa.GLFitSorted
