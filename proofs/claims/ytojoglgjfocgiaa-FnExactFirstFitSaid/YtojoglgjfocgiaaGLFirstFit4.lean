-- Written by a program of this session (gprint.py), over the kit's print: not trusted: Lean checks it.
import Derived.Test.YtojoglgjfocgiaaGLFirstFit0
import Derived.Test.YtojoglgjfocgiaaGLFirstFit1
import Derived.Test.YtojoglgjfocgiaaGLFirstFit3
namespace Go.Proofs.Ytojoglgjfocgiaa.GLFirstFit
open Go.RowKit Go.Proofs.YtojoglgjfocgiaaW.PrintWords Go.Proofs.YtojoglgjfocgiaaW.PrintLast Go.Proofs.YtojoglgjfocgiaaW.PrintMore Go.Proofs.YtojoglgjfocgiaaW.PrintOwn
attribute [local go_sem] max2_int min2_int max_two min_two max_three min_three max_four min_four   -- for this text's walks alone
set_option linter.unusedVariables false
set_option linter.unusedSimpArgs false

/-! ### impl_firstFit: function 42 -/
def impl_firstFit.fillS (l0 : List Int) : Int → List Int → Int
  | s, [] => s
  | s, v :: x => impl_firstFit.fillS l0 (wrap64 (s + rd l0 v)) x
def impl_firstFit.okB (l0 : List Int) (x : List Int) : Bool := x.all fun v => decide (0 ≤ v) && decide (v < (l0.length : Int))
def impl_firstFit.fits (l0 : List Int) (i : Int) (x : List Int) : Bool := decide (wrap64 (impl_firstFit.fillS l0 0 x + rd l0 i) ≤ 20)
def impl_firstFit.idx (l0 : List Int) (i : Int) (xs : List (List Int)) : Option Int := if (0 ≤ i ∧ i < (l0.length : Int)) ∧ (∀ x ∈ xs, impl_firstFit.okB l0 x = true) then some (idxP (impl_firstFit.fits l0 i) xs) else none
theorem impl_firstFit.fill_go (l0 : List Int) (x : List Int) (hl : x.length ≤ 9223372036854775807) : ∀ (suf pre : List Int) (s : Int), x = pre ++ suf → impl_firstFit.okB l0 suf = true → ∃ k, impl_filled.l0 k l0 s x (x.length : Int) (pre.length : Int) = some (impl_firstFit.fillS l0 s suf)
  | [], pre, s, e, h => ⟨1, by simp only [impl_filled.l0, impl_firstFit.fillS]; rw [if_neg (by rw [e]; simp)]⟩
  | v :: suf, pre, s, e, h => by
    unfold impl_firstFit.okB at h
    rw [List.all_cons, Bool.and_eq_true, Bool.and_eq_true, decide_eq_true_eq, decide_eq_true_eq] at h
    obtain ⟨k, hk⟩ := impl_firstFit.fill_go l0 x hl suf (pre ++ [v]) (wrap64 (s + rd l0 v)) (by rw [e]; simp) h.2
    have h1 : (pre.length : Int) < (x.length : Int) := by rw [e, List.length_append, List.length_cons]; omega
    have h2 : rd x (pre.length : Int) = v := by
      show x.getD (pre.length : Int).toNat 0 = v
      rw [Int.toNat_natCast, e]
      simp
    have h3 : wrap64 ((pre.length : Int) + 1) = ((pre ++ [v]).length : Int) := by rw [List.length_append, List.length_singleton]; unfold wrap64; omega
    refine ⟨k + 1, ?_⟩
    simp only [impl_filled.l0, impl_firstFit.fillS]
    rw [if_pos h1, if_pos (by omega), if_pos h1, h2, if_pos h.1.1, if_pos h.1.2, h3]
    exact hk
theorem impl_firstFit.fill (l0 : List Int) (x : List Int) (hl : x.length ≤ 9223372036854775807) (h : impl_firstFit.okB l0 x = true) : ∃ k, impl_filled.f k l0 x = some (impl_firstFit.fillS l0 0 x) := impl_firstFit.fill_go l0 x hl x [] 0 rfl h
theorem impl_firstFit.pred (Bl Bk : Nat) (A0 : Option Addr) (c0 : Nat) (l0 : List Int) (i : Int) (A_ : Option Addr) (c_ : Nat) (x : List Int) (W : World) (hBl : W.cell? ⟨Bl, 0, none⟩ = some (.slice A0 l0.length c0)) (hBk : W.cell? ⟨Bk, 0, none⟩ = some (.int .i64 i)) (hr0 : Kd.C (Kd.int .i64) W A0 l0.length l0) (hc0 : l0.length ≤ c0) (hrx : Kd.C (Kd.int .i64) W A_ x.length x) (hcx : x.length ≤ c_) (h0 : 0 ≤ i) (h1 : i < (l0.length : Int)) (hx : impl_firstFit.okB l0 x = true) :
    Calls Try.prog 57 #[.slice A_ x.length c_, .pointer (some ⟨Bl, 0, none⟩), .pointer (some ⟨Bk, 0, none⟩)] W fun e w' => e = .returned (.bool (impl_firstFit.fits l0 i x)) ∧ Below W.heap.size W w' := by
  have hmx := Kd.C_max hrx
  obtain ⟨k, hk⟩ := impl_firstFit.fill l0 x (by first | omega | (unfold maxLen at hmx; omega)) hx
  have HF := Aside0.mk (fun n => impl_filled.calls k A0 c0 l0 A_ c_ x _ (W.drewN n) (Kd.C_drewN hr0 n) hc0 (Kd.C_drewN hrx n) hcx hk)
  obtain ⟨ad, e, cx⟩ := Kd.at_int hr0 i h0 h1
  cases e
  have p0 := eq_true h0
  have p1 := eq_true h1
  have p2 : decide (0 ≤ i) = true := decide_eq_true h0
  have p3 : decide (i < (l0.length : Int)) = true := decide_eq_true h1
  unfold impl_firstFit.fits
  generalize impl_firstFit.fillS l0 0 x = s at HF
  clear h0 h1 hk hmx hr0 hrx hcx hx hc0
  go_enter Try.func57, Try.ntmps57
  go_wp2
  go_quiet ((go_at_call 58; refine (HF.out _).mono ?_; rintro e w' ⟨rfl, ⟨nd, rfl⟩⟩; (try first | exact ⟨rfl, _, World.drewN_drewN _ _ _⟩ | exact ⟨rfl, _, rfl⟩)))
  go_wp2
  go_ret
  exact ⟨rfl, by repeat (first | exact Below.refl _ _ | apply pw_below_drewN)⟩
theorem impl_firstFit.ixf (Bl Bk : Nat) (A0 : Option Addr) (c0 : Nat) (l0 : List Int) (i : Int) (A5 : Option Addr) (c5 : Nat) (x5 : List (List Int)) (t : Int) (W : World) (hBl : W.cell? ⟨Bl, 0, none⟩ = some (.slice A0 l0.length c0)) (hBk : W.cell? ⟨Bk, 0, none⟩ = some (.int .i64 i)) (hr0 : Kd.C (Kd.int .i64) W A0 l0.length l0) (hc0 : l0.length ≤ c0) (hr5 : Kd.C (Kd.slice 3 (Kd.int .i64)) W A5 x5.length x5) (h : impl_firstFit.idx l0 i x5 = some t) :
    Calls Try.prog 56 #[.slice A5 x5.length c5, .func (.func 57) #[] #[.pointer (some ⟨Bl, 0, none⟩), .pointer (some ⟨Bk, 0, none⟩)]] W fun e w' => e = .returned (.int .i64 t) ∧ Below W.heap.size W w' := by
  unfold impl_firstFit.idx at h
  split at h
  case isFalse => cases h
  case isTrue hc =>
  obtain rfl := Option.some.inj h
  refine slices_IndexFunc_int_int_56.any A5 c5 x5 (impl_firstFit.fits l0 i) 57 #[.pointer (some ⟨Bl, 0, none⟩), .pointer (some ⟨Bk, 0, none⟩)] (enters_of Try.func57 (by kernel_rfl) rfl) W hr5 (fun x hx A_ c_ hcx hrx W' hW => ?_)
  exact (impl_firstFit.pred Bl Bk A0 c0 l0 i A_ c_ x W' ((hW.cell (World.block_lt_of_cell? W _ hBl)).trans hBl) ((hW.cell (World.block_lt_of_cell? W _ hBk)).trans hBk) (Kd.C_below hr0 hW) hc0 (Kd.C_below hrx hW) hcx hc.1.1 hc.1.2 (hc.2 x hx)).mono fun e w' h => ⟨h.1, below_step hW h.2⟩
def impl_firstFit.l0 : Nat → List Int → List (List Int) → List Int → Int → Int → Option ((List (List Int)))
  | 0, _, _, _, _, _ => none
  | k + 1, x0, x5, x10, x11, x12 => if x12 < x11 then (if 0 ≤ x12 then (if x12 < (x10.length : Int) then ((impl_firstFit.idx x0 (rd x10 x12) x5).bind fun t236 => (if t236 < 0 then (if x5.length < 5864062014805 then (impl_firstFit.l0 k x0 (x5 ++ [(([rd x10 x12] : List Int))]) x10 x11 (wrap64 (x12 + 1))) else (none)) else (if 0 ≤ t236 then (if t236 < (x5.length : Int) then (if (rd_L1 x5 t236).length < 17592186044416 then (impl_firstFit.l0 k x0 (x5.set (t236 : Int).toNat ((rd_L1 x5 t236) ++ [rd x10 x12])) x10 x11 (wrap64 (x12 + 1))) else (none)) else (none)) else (none)))) else (none)) else (none)) else (some x5)
def impl_firstFit.f (k : Nat) (l0 : List Int) (l1 : List Int) : Option ((List (List Int))) := impl_firstFit.l0 k l0 (([] : List (List Int))) l1 (l1.length : Int) 0
theorem impl_firstFit.mono_l : ∀ k, (∀ y0 y1 y2 y3 y4, LeO (impl_firstFit.l0 k y0 y1 y2 y3 y4) (impl_firstFit.l0 (k + 1) y0 y1 y2 y3 y4))
  | 0 => fun _ _ _ _ _ r h => by simp [impl_firstFit.l0] at h
  | k + 1 => by
    have ih0 := impl_firstFit.mono_l k
    · intro y0 y1 y2 y3 y4
      unfold impl_firstFit.l0
      repeat' first
      | (with_reducible exact ih0 _ _ _ _ _)
      | (with_reducible exact LeO.refl _)
      | (with_reducible exact LeO.none _)
      | (with_reducible refine LeO.ite ?_ ?_)
      | (with_reducible refine LeO.bind ?_ (fun _ => ?_))
      | exact ih0 _ _ _ _ _
      | exact LeO.none _
      | refine LeO.ite ?_ ?_
      | refine LeO.bind ?_ (fun _ => ?_)
theorem impl_firstFit.mono : ∀ a0 a1 k, LeO (impl_firstFit.f k a0 a1) (impl_firstFit.f (k + 1) a0 a1) := fun a0 a1 k => impl_firstFit.mono_l k _ _ _ _ _
def impl_firstFit.T8 : Bool × List (List Nat × List Nat) := (true, [([], []), ([], []), ([], []), ([], []), ([2, 3], [2, 3]), ([4], [4]), ([], []), ([6], [6]), ([5, 7], [5, 7]), ([0, 1, 0, 1, 2, 3, 4, 5, 6, 7, 8], [0, 1]), ([9, 8, 8, 0, 1, 2, 3, 4, 5, 6, 7, 8], [8, 9])])
def impl_firstFit.B8 : List Nat := [0, 0, 0, 0, 12, 28, 0, 64, 252, 511, 1023]
theorem impl_firstFit.tab8 : rtab .any (opsOf Try.f42 8) = impl_firstFit.T8 := by kernel_rfl
theorem impl_firstFit.bits8 : waitsOk impl_firstFit.T8.2 impl_firstFit.B8 = true := by kernel_rfl
set_option maxHeartbeats 8000000 in
set_option maxRecDepth 100000 in
theorem impl_firstFit.calls (k : Nat) (A0 : Option Addr) (c0 : Nat) (l0 : List Int) (A1 : Option Addr) (c1 : Nat) (l1 : List Int) (r : List (List Int)) (w : World) (hr0 : Kd.C (Kd.int .i64) w A0 l0.length l0) (hc0 : l0.length ≤ c0) (hr1 : Kd.C (Kd.int .i64) w A1 l1.length l1) (hc1 : l1.length ≤ c1) (h : impl_firstFit.f k l0 l1 = some r) :
    Calls Try.prog 42 #[.slice A0 l0.length c0, .slice A1 l1.length c1] w fun e w' => ∃ v0_ : Value, e = .returned (v0_) ∧ Kd.S (Kd.slice 3 (Kd.int .i64)) 22 w' w.heap.size (fun _ => True) v0_ r ∧ Below w.heap.size w w' := by
  have HR0 := Aside0.mk hr0
  have HC0 := Aside0.mk hc0
  clear hr0 hc0
  have HR1 := Aside0.mk hr1
  have HC1 := Aside0.mk hc1
  clear hr1 hc1
  have HB := Aside0.mk (Below.refl w.heap.size w)
  have H : (impl_firstFit.l0 k l0 (([] : List (List Int))) l1 (l1.length : Int) 0) = some r := h
  clear h
  obtain ⟨y231, hy231⟩ : ∃ y_ : List (List Int), y_ = (([] : List (List Int))) := ⟨_, rfl⟩
  replace H : (impl_firstFit.l0 k l0 y231 l1 (l1.length : Int) 0) = some r := by first | (rw [hy231]; with_reducible exact H) | (have H2_ := (Option.bind_some _ _).symm.trans H; rw [hy231]; with_reducible exact H2_) | (have H2_ := (Option.bind_some _ _).symm.trans H; with_reducible exact H2_) | with_reducible exact H | (rw [hy231]; exact H) | exact H
  have Ny231 := Aside0.mk hy231
  clear hy231
  have H' := Aside0.mk H
  clear H
  go_enter Try.func42, Try.ntmps42
  go_wp2_with (first | ((with_reducible refine gate_dst (N := 9) rfl ?_); refine Kd.S_lit (Kd.slice 3 (Kd.int .i64)) _ 22 ?hg (N := 9) ?hd (xs := ([] : List (List Int))) (inner := []) (ok := fun _ => True) (okp := fun _ => True) ?hr ?hp (fun _ hk => hk) trivial (Below.refl _ _) (Nat.le_refl _) (by simp) ?_; (case hd => rfl); (case hg => rfl); (case hr => first | (go_simp; done) | (go_simp; rfl)); (case hp => exact (Reps.none _ _)); intro v232 w3 ho4 hb hg_ hnew_; clear hg_ hnew_; obtain ⟨wa, hwa⟩ : ∃ wa : World, wa = w.alloc (.cells #[.slice A0 l0.length c0] 22) := ⟨_, rfl⟩; rw [← hwa] at ho4 hb; have hsz : wa.heap.size = w.heap.size + 1 := (by rw [hwa]; simp); have hbx : wa.cell? ⟨w.heap.size, 0, none⟩ = some (.slice A0 l0.length c0) := (by rw [hwa]; simp); have hbw : Below w.heap.size w wa := (by rw [hwa]; exact (Below.refl w.heap.size w).alloc (Nat.le_refl _) _); rw [← Ny231.out] at ho4; have HO233 := Aside0.mk ho4; have n1_ := Aside0.mk hb; clear HB; have HB := n1_; clear n1_; have HSZ := Aside0.mk hsz; have HBX := Aside0.mk hbx; have HBW := Aside0.mk hbw; have n2_ := Aside0.mk (Kd.C_below HR0.out hbw); have n3_ := Aside0.mk (Kd.C_below HR1.out hbw); clear HR0 HR1; have HR0 := n2_; have HR1 := n3_; clear n2_ n3_; clear ho4 hb hsz hbx hbw hwa))
  go_loopg [5, 12] k (fun kq v5 v12 w' => ∃ (x5_1 : List (List Int)) (x12_1 : Int), v12 = .int .i64 x12_1 ∧ Aside0 (impl_firstFit.l0 kq l0 x5_1 l1 (l1.length : Int) x12_1 = some r) ∧ Aside0 (kq ≤ k) ∧ Aside0 (Kd.S (Kd.slice 3 (Kd.int .i64)) 22 w' wa.heap.size (fun _ => True) v5 x5_1) ∧ Aside0 (Below wa.heap.size wa w'))
  case atStart => exact ⟨(y231), (0), (by first | rfl | (simp; done) | (simp [*]; done)), H', ⟨Nat.le_refl _⟩, ⟨by (with_reducible repeat (first | apply Kd.S_alloc | apply Kd.S_drewN | apply Kd.S_drew)); exact HO233.out⟩, ⟨by repeat (first | (with_reducible first | exact HB.out | apply below_alloc | apply pw_below_drewN | apply below_drew1) | exact HB.out)⟩⟩
  case round =>
    clear H'
    try clear c1
    try clear p2
    try clear c4
    obtain ⟨x5_1, x12_1, rfl, HA, HK1, HO_5, HB⟩ := hrel
    cases gk with
    | zero => exact absurd HA.out (by simp [impl_firstFit.l0])
    | succ k1 =>
      have H := HA.out
      clear HA
      simp only [impl_firstFit.l0] at H
      by_cases c5 : x12_1 < (l1.length : Int)
      · rw [if_pos c5] at H
        have c5b0 : decide (x12_1 < (l1.length : Int)) = true := decide_eq_true c5
        clear c5
        by_cases c6 : 0 ≤ x12_1
        · rw [if_pos c6] at H
          have c6b0 : decide (0 ≤ x12_1) = true := decide_eq_true c6
          clear c6
          by_cases c7 : x12_1 < (l1.length : Int)
          · rw [if_pos c7] at H
            have c7b0 : decide (x12_1 < (l1.length : Int)) = true := decide_eq_true c7
            clear c7
            replace H := Option.bind_eq_some_iff.mp H
            obtain ⟨t236, A80, H⟩ := H
            replace H : (if t236 < 0 then (if x5_1.length < 5864062014805 then (impl_firstFit.l0 k1 l0 (x5_1 ++ [(([rd l1 x12_1] : List Int))]) l1 (l1.length : Int) (wrap64 (x12_1 + 1))) else (none)) else (if 0 ≤ t236 then (if t236 < (x5_1.length : Int) then (if (rd_L1 x5_1 t236).length < 17592186044416 then (impl_firstFit.l0 k1 l0 (x5_1.set (t236 : Int).toNat ((rd_L1 x5_1 t236) ++ [rd l1 x12_1])) l1 (l1.length : Int) (wrap64 (x12_1 + 1))) else (none)) else (none)) else (none))) = some r := H
            have A8 := Aside0.mk A80
            clear A80
            by_cases c9 : t236 < 0
            · rw [if_pos c9] at H
              have c9b0 : decide (t236 < 0) = true := decide_eq_true c9
              clear c9
              obtain ⟨y237, hy237⟩ : ∃ y_ : List Int, y_ = (([rd l1 x12_1] : List Int)) := ⟨_, rfl⟩
              replace H : (if x5_1.length < 5864062014805 then (impl_firstFit.l0 k1 l0 (x5_1 ++ [y237]) l1 (l1.length : Int) (wrap64 (x12_1 + 1))) else (none)) = some r := by first | (rw [hy237]; with_reducible exact H) | (have H2_ := (Option.bind_some _ _).symm.trans H; rw [hy237]; with_reducible exact H2_) | (have H2_ := (Option.bind_some _ _).symm.trans H; with_reducible exact H2_) | with_reducible exact H | (rw [hy237]; exact H) | exact H
              have Ny237 := Aside0.mk hy237
              clear hy237
              by_cases c10 : x5_1.length < 5864062014805
              · rw [if_pos c10] at H
                have LMc10 := Aside0.mk c10
                clear c10
                obtain ⟨y240, hy240⟩ : ∃ y_ : List (List Int), y_ = (x5_1 ++ [y237]) := ⟨_, rfl⟩
                replace H : (impl_firstFit.l0 k1 l0 y240 l1 (l1.length : Int) (wrap64 (x12_1 + 1))) = some r := by first | (rw [hy240]; with_reducible exact H) | (have H2_ := (Option.bind_some _ _).symm.trans H; rw [hy240]; with_reducible exact H2_) | (have H2_ := (Option.bind_some _ _).symm.trans H; with_reducible exact H2_) | with_reducible exact H | (rw [hy240]; exact H) | exact H
                have Ny240 := Aside0.mk hy240
                clear hy240
                have H' := Aside0.mk H
                clear H
                have p234 : 0 ≤ (x12_1 : Int) := of_decide_eq_true (by first | (with_reducible assumption) | assumption)
                have q234 : x12_1 < (l1.length : Int) := of_decide_eq_true (by first | (with_reducible assumption) | assumption)
                obtain ⟨ad234, e234, hx234_0⟩ := Kd.at_int HR1.out x12_1 p234 q234
                cases e234
                replace hx234_0 := (HB.out.cell (World.block_lt_of_cell? wa _ hx234_0)).trans hx234_0
                replace p234 := eq_true p234
                replace q234 := eq_true q234
                have p235 : 0 ≤ (x12_1 : Int) := of_decide_eq_true (by first | (with_reducible assumption) | assumption)
                have q235 : x12_1 < (l1.length : Int) := of_decide_eq_true (by first | (with_reducible assumption) | assumption)
                obtain ⟨ad235, e235, hx235_0⟩ := Kd.at_int HR1.out x12_1 p235 q235
                obtain rfl : ad234 = ad235 := (by injection e235)
                replace hx235_0 := (HB.out.cell (World.block_lt_of_cell? wa _ hx235_0)).trans hx235_0
                replace p235 := eq_true p235
                replace q235 := eq_true q235
                obtain ⟨Ao5, co5, eo5⟩ := Kd.S_slice HO_5.out
                subst eo5
                go_wp2_with (first | (go_at_call 56; generalize hw : wr.alloc (.cells #[.int .i64 (rd l1 x12_1)] 3) = w2; have hb2 : Below wr.heap.size wr w2 := (by rw [← hw]; exact (Below.refl wr.heap.size wr).alloc (Nat.le_refl _) _); have hk2 : w2.cell? ⟨wr.heap.size, 0, none⟩ = some (.int .i64 (rd l1 x12_1)) := (by rw [← hw]; simp); have hs2 : w2.heap.size = wr.heap.size + 1 := (by rw [← hw]; simp); have n0_ := Aside0.mk (Kd.S_below (Kd.S_mono (Kd.S_bound HO_5.out) (ok' := fun k_ => k_ ≠ wr.heap.size) (fun k_ hk_ => Nat.ne_of_lt hk_.2.2.1)) hb2); have n1_ := Aside0.mk (below_step HB.out hb2); have HIX := Aside0.mk (impl_firstFit.ixf w.heap.size wr.heap.size A0 c0 l0 (rd l1 x12_1) Ao5 co5 x5_1 t236 w2 ((n1_.out.cell (p := ⟨w.heap.size, 0, none⟩) (by have := HSZ.out; show w.heap.size < _; omega)).trans HBX.out) hk2 (Kd.C_below HR0.out n1_.out) HC0.out (Kd.S_reads' n0_.out).2.2 A8.out); refine HIX.out.mono ?_; rintro e w3 ⟨rfl, hb3⟩; have m0_ := Aside0.mk (Kd.S_below n0_.out hb3); have m1_ := Aside0.mk (below_step n1_.out hb3); have hk3 := (hb3.cell (p := ⟨wr.heap.size, 0, none⟩) (by show wr.heap.size < _; omega)).trans hk2; have HBK := Aside0.mk (show wr.heap.size < w3.heap.size from by have := hb3.size; omega); clear HO_5 HB hb3 HIX hw hb2 hk2 hs2 n0_ n1_; have HO_5 := m0_; have HB := m1_; clear m0_ m1_) | ((with_reducible refine gate_dst (N := 23) rfl ?_); refine Kd.R_lit (Kd.int .i64) _ 3 ?hg (N := 23) ?hd (xs := ([rd l1 x12_1] : List Int)) (inner := [.int .i64 (rd l1 x12_1)]) (ok := fun _ => True) (okp := fun _ => True) ?hr ?hp (fun _ hk => hk) trivial (Below.refl _ _) (Nat.le_refl _) (by simp) ?_; (case hd => rfl); (case hg => rfl); (case hr => first | (go_simp; done) | (go_simp; rfl)); (case hp => exact (Reps.one (show Kd.M (Kd.int .i64) _ _ _ (rd l1 x12_1) [.int .i64 (rd l1 x12_1)] from rfl) (Reps.none _ _))); intro v238 w11 ho12 hb hg_ hnew_; clear hg_ hnew_; (first | rw [← Ny237.out] at ho12 | (simp only [Int.reduceToNat] at ho12; rw [← Ny237.out] at ho12)); have n0_ := Aside0.mk (Kd.S_elder' (by (with_reducible repeat (first | apply Kd.S_alloc | apply Kd.S_drewN | apply Kd.S_drew)); exact HO_5.out) (Kd.R_base ho12) hb); have n1_ := Aside0.mk (Kd.R_lower ho12 (below_size (by repeat (first | (with_reducible first | exact HB.out | apply below_alloc | apply pw_below_drewN | apply below_drew1) | exact HB.out)))); have n2_ := Aside0.mk (below_step (by repeat (first | (with_reducible first | exact HB.out | apply below_alloc | apply pw_below_drewN | apply below_drew1) | exact HB.out)) hb); clear HO_5; clear HB; have HO_5 := n0_; have HO239 := n1_; have HB := n2_; clear n0_ n1_ n2_; clear hb ho12; obtain ⟨Ao14, co14, eo14⟩ := Kd.R_slice HO239.out; subst eo14) | ((with_reducible refine gate_builtin (b := .append) (xs := #[.tmp 21, .tmp 24]) rfl ?_); at_builtin; refine Kd.S_append (Kd.slice 3 (Kd.int .i64)) (w0 := wa) wa.heap.size rfl (.tmp 21) (.tmp 24) 28 22 (.slice none 0 0) 24 rfl Try.underlying28 info22 rfl (by decide) (by omega) (.slice Ao5 x5_1.length co5) x5_1 y237 [.slice Ao14 y237.length co14] (fun _ => True) (fun k_ => some k_ = (.slice Ao14 y237.length co14 : Value).ownBlock) rfl rfl ?aP (fun k_ hk_ => ((Kd.R_mono (ok' := fun k_ => ((fun _ => True)) k_ ∧ some k_ ≠ ((.slice Ao5 x5_1.length co5) : Value).ownBlock) (Kd.R_apart' (HO239.out) (Kd.S_typed HO_5.out) (by decide)) (fun k_ hk => ⟨trivial, hk.2⟩))).1 k_ hk_.symm) ?aF ?aO ?aB ?aS ?aL ?_; (case aP => exact Kd.M_row (Kd.R_mono (Kd.R_tight rfl (Kd.R_mono (ok' := fun k_ => ((fun _ => True)) k_ ∧ some k_ ≠ ((.slice Ao5 x5_1.length co5) : Value).ownBlock) (Kd.R_apart' (HO239.out) (Kd.S_typed HO_5.out) (by decide)) (fun k_ hk => ⟨trivial, hk.2⟩))) (fun _ h_ => h_))); (case aB => exact (by repeat (first | (with_reducible first | exact HB.out | apply below_alloc | apply pw_below_drewN | apply below_drew1) | exact HB.out))); (case aF => exact (fun _ _ => trivial)); (case aO => exact (by (with_reducible repeat (first | apply Kd.S_alloc | apply Kd.S_drewN | apply Kd.S_drew)); exact Kd.S_mono HO_5.out (fun k_ hk => ⟨trivial, fun e_ => hk.2 e_⟩))); (case aS => exact (below_size (by repeat (first | (with_reducible first | exact HB.out | apply below_alloc | apply pw_below_drewN | apply below_drew1) | exact HB.out)))); (case aL => have := LMc10.out; omega); intro v241 w13 ho hb hg hat; rw [← Ny240.out] at ho; have n0_ := Aside0.mk (hb); have n1_ := Aside0.mk (ho); clear HB; clear HO_5; clear HO239; have HB := n0_; have HO242 := n1_; clear n0_ n1_; clear ho hb hg hat))
                go_roundg k1
                case measure => have := HK1.out; omega
                case rel => exact ⟨(y240), (wrap64 (x12_1 + 1)), (by first | rfl | (simp; done) | (simp [*]; done)), H', ⟨by have := HK1.out; omega⟩, ⟨by (with_reducible repeat (first | apply Kd.S_alloc | apply Kd.S_drewN | apply Kd.S_drew)); exact HO242.out⟩, ⟨by repeat (first | (with_reducible first | exact HB.out | apply below_alloc | apply pw_below_drewN | apply below_drew1) | exact HB.out)⟩⟩
              · rw [if_neg c10] at H
                exact absurd H (by simp)
            · rw [if_neg c9] at H
              have c9b0 : decide (t236 < 0) = false := decide_eq_false c9
              clear c9
              by_cases c15 : 0 ≤ t236
              · rw [if_pos c15] at H
                have c15b0 : decide (0 ≤ t236) = true := decide_eq_true c15
                clear c15
                by_cases c16 : t236 < (x5_1.length : Int)
                · rw [if_pos c16] at H
                  have c16b0 : decide (t236 < (x5_1.length : Int)) = true := decide_eq_true c16
                  clear c16
                  by_cases c17 : (rd_L1 x5_1 t236).length < 17592186044416
                  · rw [if_pos c17] at H
                    have LMc17 := Aside0.mk c17
                    clear c17
                    obtain ⟨y244, hy244⟩ : ∃ y_ : List Int, y_ = ((rd_L1 x5_1 t236) ++ [rd l1 x12_1]) := ⟨_, rfl⟩
                    replace H : (impl_firstFit.l0 k1 l0 (x5_1.set (t236 : Int).toNat y244) l1 (l1.length : Int) (wrap64 (x12_1 + 1))) = some r := by first | (rw [hy244]; with_reducible exact H) | (have H2_ := (Option.bind_some _ _).symm.trans H; rw [hy244]; with_reducible exact H2_) | (have H2_ := (Option.bind_some _ _).symm.trans H; with_reducible exact H2_) | with_reducible exact H | (rw [hy244]; exact H) | exact H
                    have Ny244 := Aside0.mk hy244
                    clear hy244
                    obtain ⟨y247, hy247⟩ : ∃ y_ : List (List Int), y_ = (x5_1.set (t236 : Int).toNat y244) := ⟨_, rfl⟩
                    replace H : (impl_firstFit.l0 k1 l0 y247 l1 (l1.length : Int) (wrap64 (x12_1 + 1))) = some r := by first | (rw [hy247]; with_reducible exact H) | (have H2_ := (Option.bind_some _ _).symm.trans H; rw [hy247]; with_reducible exact H2_) | (have H2_ := (Option.bind_some _ _).symm.trans H; with_reducible exact H2_) | with_reducible exact H | (rw [hy247]; exact H) | exact H
                    have Ny247 := Aside0.mk hy247
                    clear hy247
                    have H' := Aside0.mk H
                    clear H
                    have p234 : 0 ≤ (x12_1 : Int) := of_decide_eq_true (by first | (with_reducible assumption) | assumption)
                    have q234 : x12_1 < (l1.length : Int) := of_decide_eq_true (by first | (with_reducible assumption) | assumption)
                    obtain ⟨ad234, e234, hx234_0⟩ := Kd.at_int HR1.out x12_1 p234 q234
                    cases e234
                    replace hx234_0 := (HB.out.cell (World.block_lt_of_cell? wa _ hx234_0)).trans hx234_0
                    replace p234 := eq_true p234
                    replace q234 := eq_true q234
                    have p235 : 0 ≤ (x12_1 : Int) := of_decide_eq_true (by first | (with_reducible assumption) | assumption)
                    have q235 : x12_1 < (l1.length : Int) := of_decide_eq_true (by first | (with_reducible assumption) | assumption)
                    obtain ⟨ad235, e235, hx235_0⟩ := Kd.at_int HR1.out x12_1 p235 q235
                    obtain rfl : ad234 = ad235 := (by injection e235)
                    replace hx235_0 := (HB.out.cell (World.block_lt_of_cell? wa _ hx235_0)).trans hx235_0
                    replace p235 := eq_true p235
                    replace q235 := eq_true q235
                    obtain ⟨Ao5, co5, eo5⟩ := Kd.S_slice HO_5.out
                    subst eo5
                    go_wp2_with (first | (go_at_call 56; generalize hw : wr.alloc (.cells #[.int .i64 (rd l1 x12_1)] 3) = w2; have hb2 : Below wr.heap.size wr w2 := (by rw [← hw]; exact (Below.refl wr.heap.size wr).alloc (Nat.le_refl _) _); have hk2 : w2.cell? ⟨wr.heap.size, 0, none⟩ = some (.int .i64 (rd l1 x12_1)) := (by rw [← hw]; simp); have hs2 : w2.heap.size = wr.heap.size + 1 := (by rw [← hw]; simp); have n0_ := Aside0.mk (Kd.S_below (Kd.S_mono (Kd.S_bound HO_5.out) (ok' := fun k_ => k_ ≠ wr.heap.size) (fun k_ hk_ => Nat.ne_of_lt hk_.2.2.1)) hb2); have n1_ := Aside0.mk (below_step HB.out hb2); have HIX := Aside0.mk (impl_firstFit.ixf w.heap.size wr.heap.size A0 c0 l0 (rd l1 x12_1) Ao5 co5 x5_1 t236 w2 ((n1_.out.cell (p := ⟨w.heap.size, 0, none⟩) (by have := HSZ.out; show w.heap.size < _; omega)).trans HBX.out) hk2 (Kd.C_below HR0.out n1_.out) HC0.out (Kd.S_reads' n0_.out).2.2 A8.out); refine HIX.out.mono ?_; rintro e w3 ⟨rfl, hb3⟩; have m0_ := Aside0.mk (Kd.S_below n0_.out hb3); have m1_ := Aside0.mk (below_step n1_.out hb3); have hk3 := (hb3.cell (p := ⟨wr.heap.size, 0, none⟩) (by show wr.heap.size < _; omega)).trans hk2; have HBK := Aside0.mk (show wr.heap.size < w3.heap.size from by have := hb3.size; omega); clear HO_5 HB hb3 HIX hw hb2 hk2 hs2 n0_ n1_; have HO_5 := m0_; have HB := m1_; clear m0_ m1_))
                    have n0_ := Aside0.mk (Kd.S_drew HO_5.out)
                    have n1_ := Aside0.mk (below_drew1 HB.out)
                    clear HO_5
                    clear HB
                    have HO_5 := n0_
                    have HB := n1_
                    clear n0_ n1_
                    obtain ⟨Ao20, co20, eo20⟩ := Kd.S_slice HO_5.out
                    (first | subst eo20 | (injection eo20 with f1_ f2_ f3_; have f4_ := f1_.symm; have f5_ := f3_.symm; clear f1_ f2_ f3_; subst f4_; subst f5_))
                    have p243 : 0 ≤ (t236 : Int) := of_decide_eq_true (by first | (with_reducible assumption) | assumption)
                    have q243 : t236 < (x5_1.length : Int) := of_decide_eq_true (by first | (with_reducible assumption) | assumption)
                    obtain ⟨ad243, A243_0, c243_0, e243, hx243_0, hl243_0, hi243_0⟩ := at_L1 (Kd.S_reads' HO_5.out).2.2 t236 p243 q243
                    cases e243
                    obtain ⟨ce243, hce243, hMe243, hcc243⟩ := Kd.S_get HO_5.out [] t236 p243 (by first | exact q243 | exact of_decide_eq_true (by first | (with_reducible assumption) | assumption) | (have e_ := (Kd.S_reads' HO_5.out).1; omega))
                    obtain ⟨ve243_0, rfl, ge243_0⟩ := hMe243
                    have hv243_0 := hcc243 0 _ rfl
                    rw [Nat.add_zero, show ((Kd.slice 3 (Kd.int .i64))).sz = 1 from rfl, Nat.mul_one] at hv243_0
                    replace hv243_0 := Option.some.inj (hv243_0.symm.trans hx243_0)
                    rw [hv243_0] at ge243_0
                    have HL243_0 := Aside0.mk (show Kd.R (Kd.int .i64) 3 _ _ _ _ (rd_L1 x5_1 t236) from ge243_0)
                    clear hv243_0 ge243_0
                    have HX243_0 := Aside0.mk hx243_0
                    clear hcc243 hce243
                    have HR243_0 := Aside0.mk hi243_0
                    have HC243_0 := Aside0.mk hl243_0
                    clear hi243_0 hl243_0
                    replace p243 := eq_true p243
                    replace q243 := eq_true q243
                    obtain ⟨go21, co21, eo21, gb21, gl21, cl21, HG21⟩ := Kd.S_form HO_5.out (by have h_ : (t236 : Int) < ((x5_1.length : Int) : Int) := of_decide_eq_true (by first | (with_reducible assumption) | assumption); have h2_ : 0 ≤ (t236 : Int) := (of_decide_eq_true (by first | (with_reducible assumption) | assumption)); omega)
                    (first | cases eo21 | (injection eo21 with ea_ en_ ec_; (first | subst ea_ | (injection ea_ with ea_; subst ea_)); subst ec_; clear en_))
                    have GB21 := Aside0.mk gb21
                    have GG21 := Aside0.mk HG21
                    clear gb21 gl21 HG21
                    (first | simp only [add_plain] at hx243_0 | skip)
                    obtain ⟨oki21, ce21, hcl21, hM21, hcc21, _, _, hH21⟩ := Kd.S_elem HO_5.out [] (t236 : Int) (of_decide_eq_true (by first | (with_reducible assumption) | assumption)) (by have h_ : (t236 : Int) < ((x5_1.length : Int) : Int) := of_decide_eq_true (by first | (with_reducible assumption) | assumption); first | exact h_ | (have e_ := (Kd.S_reads' HO_5.out).1; omega) | simpa using h_)
                    obtain ⟨ve21_0, rfl, ge21_0⟩ := hM21
                    have hv21 := hcc21 0 _ rfl
                    have hX21 := HX243_0.out
                    (try simp only [add_plain] at hX21)
                    (try simp only [Nat.add_zero] at hv21)
                    (try rw [show ((Kd.slice 3 (Kd.int .i64))).sz = 1 from rfl, Nat.mul_one] at hv21)
                    replace hv21 := Option.some.inj (hv21.symm.trans hX21)
                    subst hv21
                    clear hX21 hcc21 hcl21
                    have UU21 := Aside0.mk (show Kd.R (Kd.int .i64) 3 _ wa.heap.size oki21 (.slice A243_0 (rd_L1 x5_1 t236).length c243_0) (rd_L1 x5_1 t236) from ge21_0)
                    have HH21 := Aside0.mk hH21
                    have HN21 := Aside0.mk (Kd.S_reads' HO_5.out).1
                    clear hH21 ge21_0
                    have HBKd := Aside0.mk (show wr.heap.size < w3.drew.heap.size from HBK.out)
                    refine start_ (n := 11) (S := fun w' => w'.cell? ⟨go21, (t236).toNat, none⟩ = some (.slice A243_0 (rd_L1 x5_1 t236).length c243_0) ∧ w'.cell? ⟨wr.heap.size, 0, none⟩ = some (.int .i64 (rd l1 x12_1))) (ds := [10]) #[false, false, false, false, false, false, false, false, false, false, false] (by kernel_rfl) rfl rfl ⟨hx243_0, (show w3.drew.cell? _ = _ from hk3)⟩ (fun hHeld => ?_); refine with_tabW impl_firstFit.tab8 impl_firstFit.bits8 (fun HT_ HW_ => ?_)
                    clear hk3 HBK
                    generalize w3.drew = w19 at HO_5 HB GG21 HH21 HL243_0 HR243_0 HX243_0 UU21 hx243_0 HBKd hHeld ⊢
                    refine pure_ (i := 0) (N := some 26) (v := ?_) (a' := ?_) #[true, false, false, false, false, false, false, false, false, false, false] rfl rfl (any_of HT_.out (by kernel_rfl)) (fun _ _ _ h => h) (Or.inl ⟨by rfl, ?_⟩) ?_ ?_
                    rotate_left
                    · intro w'
                      go_simp
                      with_reducible rfl
                    rotate_left
                    · simp only [Act.put, List.setIfInBounds_toArray, List.set_cons_zero, List.set_cons_succ, i64_w, i32_w]
                      rfl
                    refine pure_ (i := 1) (N := some 27) (v := ?_) (a' := ?_) #[true, true, false, false, false, false, false, false, false, false, false] rfl rfl (any_of HT_.out (by kernel_rfl)) (fun _ _ _ h => h) (Or.inl ⟨by rfl, ?_⟩) ?_ ?_
                    rotate_left
                    · intro w'
                      go_simp
                      with_reducible rfl
                    rotate_left
                    · simp only [Act.put, List.setIfInBounds_toArray, List.set_cons_zero, List.set_cons_succ, i64_w, i32_w]
                      rfl
                    refine pure_ (i := 2) (N := some 28) (v := ?_) (a' := ?_) #[true, true, true, false, false, false, false, false, false, false, false] rfl rfl (any_of HT_.out (by kernel_rfl)) (fun _ _ _ h => h) (Or.inl ⟨by rfl, ?_⟩) ?_ ?_
                    rotate_left
                    · intro w'
                      go_simp
                      with_reducible rfl
                    rotate_left
                    · simp only [Act.put, List.setIfInBounds_toArray, List.set_cons_zero, List.set_cons_succ, i64_w, i32_w]
                      rfl
                    refine pure_ (i := 3) (N := some 29) (v := ?_) (a' := ?_) #[true, true, true, true, false, false, false, false, false, false, false] rfl rfl (any_of HT_.out (by kernel_rfl)) (fun _ _ _ h => h) (Or.inl ⟨by rfl, ?_⟩) ?_ ?_
                    rotate_left
                    · intro w'
                      go_simp
                      with_reducible rfl
                    rotate_left
                    · simp only [Act.put, List.setIfInBounds_toArray, List.set_cons_zero, List.set_cons_succ, i64_w, i32_w]
                      rfl
                    refine pure_ (i := 4) (N := some 30) (v := ?_) (a' := ?_) #[true, true, true, true, true, false, false, false, false, false, false] rfl rfl (any_of HT_.out (by kernel_rfl)) (fun _ _ _ h => h) (Or.inl ⟨by rfl, ?_⟩) ?_ ?_
                    rotate_left
                    · intro w'
                      go_simp
                      with_reducible rfl
                    rotate_left
                    · simp only [Act.put, List.setIfInBounds_toArray, List.set_cons_zero, List.set_cons_succ, i64_w, i32_w]
                      rfl
                    refine take_ (i := 5) (N := some 31) (v := ?_) (a' := ?_) #[true, true, true, true, true, true, false, false, false, false, false] rfl rfl (take_ofW HT_.out HW_.out (by kernel_rfl)) (fun _ _ _ h => h) (Or.inl ⟨by rfl, ?_⟩) hHeld ?_ ?_
                    rotate_left
                    · rintro w' ⟨s0, s1⟩
                      go_simp
                      with_reducible rfl
                    rotate_left
                    · simp only [Act.put, List.setIfInBounds_toArray, List.set_cons_zero, List.set_cons_succ, i64_w, i32_w]
                      rfl
                    refine take_ (i := 6) (N := some 32) (v := ?_) (a' := ?_) #[true, true, true, true, true, true, true, false, false, false, false] rfl rfl (take_ofW HT_.out HW_.out (by kernel_rfl)) (fun _ _ _ h => h) (Or.inl ⟨by rfl, ?_⟩) hHeld ?_ ?_
                    rotate_left
                    · rintro w' ⟨s0, s1⟩
                      go_simp
                      with_reducible rfl
                    rotate_left
                    · simp only [Act.put, List.setIfInBounds_toArray, List.set_cons_zero, List.set_cons_succ, i64_w, i32_w]
                      rfl
                    refine one_ (i := 7) (N := some 33) #[true, true, true, true, true, true, true, true, false, false, false] rfl rfl (one_of HT_.out (by kernel_rfl)) (by decide) (fun K hK => ?_)
                    refine value_ (w1 := ?_) (v := ?_) (by rfl) rfl ?_ ?_
                    rotate_left 2
                    · go_simp
                      constructor
                      · rfl
                      · rfl
                    refine hK.out _ _ ⟨(World.cell?_alloc_lt _ _ _ (World.block_lt_of_cell? _ _ hHeld.1)).trans hHeld.1, (World.cell?_alloc_lt _ _ _ (World.block_lt_of_cell? _ _ hHeld.2)).trans hHeld.2⟩ (fun hHeld => ?_)
                    clear hK K
                    refine norm_ (a' := ?_) ?_ ?_
                    rotate_left
                    · show Act.put _ (some 33) _ = _
                      simp only [Act.put, List.setIfInBounds_toArray, List.set_cons_zero, List.set_cons_succ, i64_w, i32_w]
                      rfl
                    refine one_ (i := 8) (N := some 34) #[true, true, true, true, true, true, true, true, true, false, false] rfl rfl (one_of HT_.out (by kernel_rfl)) (by decide) (fun K hK => ?_)
                    refine Kd.R_append_step (Kd.int .i64) (w0 := wa) wa.heap.size (by rfl) (.tmp 31) (.tmp 33) 22 3 (.int .i64 0) 8 rfl Try.underlying22 info3 rfl (by decide) (by omega) (.slice A243_0 (rd_L1 x5_1 t236).length c243_0) (rd_L1 x5_1 t236) (rd l1 x12_1) [.int .i64 (rd l1 x12_1)] (fun k_ => oki21 k_ ∨ (k_ ≠ wr.heap.size) ∧ w19.heap.size ≤ k_) (fun _ => False) rfl rfl ?aP (fun _ hk => hk.elim) ?aF ?aO ?aB ?aS ?aL ?_
                    (case aP => exact rfl)
                    (case aB => exact (by repeat (first | (with_reducible first | exact HB.out | apply below_alloc | apply pw_below_drewN | apply below_drew1) | exact HB.out)))
                    (case aF => exact (fun k_ hk => .inr ⟨(by have := HBKd.out; omega), hk⟩))
                    (case aO => exact (by (with_reducible repeat (first | apply Kd.R_alloc | apply Kd.R_drewN | apply Kd.R_drew)); exact Kd.R_mono UU21.out (fun _ hk => .inl hk)))
                    (case aS => exact (below_size (by repeat (first | (with_reducible first | exact HB.out | apply below_alloc | apply pw_below_drewN | apply below_drew1) | exact HB.out))))
                    (case aL => have := LMc17.out; omega)
                    intro v245 w22 ho hb hg hat
                    (first | have HS0_ := cell_grown hg (hHeld.1) (by first | (rw [add_block]; exact (fun e_ => ((HL243_0.out.1 _ e_.symm).2) rfl)) | (show some (Addr.add _ _).block ≠ _; rw [add_block]; exact (fun e_ => ((HL243_0.out.1 _ e_.symm).2) rfl)) | exact (fun e_ => ((HL243_0.out.1 _ e_.symm).2) rfl)) | have HS0_ := cell_grown hg (cell_unalloc (hHeld.1) (by first | (rw [add_block]; exact Kd.S_lt HO_5.out _ rfl) | (show (Addr.add _ _).block < _; rw [add_block]; exact Kd.S_lt HO_5.out _ rfl) | exact Kd.S_lt HO_5.out _ rfl)) (by first | (rw [add_block]; exact (fun e_ => ((HL243_0.out.1 _ e_.symm).2) rfl)) | (show some (Addr.add _ _).block ≠ _; rw [add_block]; exact (fun e_ => ((HL243_0.out.1 _ e_.symm).2) rfl)) | exact (fun e_ => ((HL243_0.out.1 _ e_.symm).2) rfl)))
                    (first | have HS1_ := cell_grown hg (hHeld.2) (fun e_ => ((HL243_0.out.1 _ e_.symm).1) rfl) | have HS1_ := cell_grown hg (cell_unalloc (hHeld.2) (by have := HBKd.out; show wr.heap.size < _; omega)) (fun e_ => ((HL243_0.out.1 _ e_.symm).1) rfl))
                    rw [← Ny244.out] at ho
                    have n0_ := Aside0.mk (hb)
                    have n1_ := Aside0.mk (Kd.H_grown (Kd.H_widen (by repeat (first | exact HH21.out | refine Kd.H_alloc ?_ _ | refine Kd.H_drewN ?_ _ | refine Kd.H_drew ?_))) hg (fun k_ e_ => .inl (UU21.out.1 k_ e_)))
                    have n2_ := Aside0.mk (ho)
                    clear HB
                    clear HH21
                    clear HO_5
                    clear UU21
                    clear HL243_0
                    have HB := n0_
                    have HH21 := n1_
                    have HO246 := n2_
                    clear n0_ n1_ n2_
                    clear ho hb hg hat
                    have p18 : 0 ≤ (t236 : Int) := of_decide_eq_true (by first | (with_reducible assumption) | assumption)
                    have q18 : (t236 : Int) < ((x5_1.length : Int) : Int) := of_decide_eq_true (by first | (with_reducible assumption) | assumption)
                    replace p18 := eq_true p18
                    replace q18 := eq_true q18
                    obtain ⟨Ao25, co25, eo25⟩ := Kd.R_slice HO246.out
                    (first | subst eo25 | (injection eo25 with f1_ f2_ f3_; have f4_ := f1_.symm; have f5_ := f3_.symm; clear f1_ f2_ f3_; subst f4_; subst f5_))
                    obtain ⟨_, _, hraw23, _, _, hcc23, _⟩ := Kd.H_raw HH21.out (of_decide_eq_true (by first | (with_reducible assumption) | assumption)) (by have h_ : (t236 : Int) < ((x5_1.length : Int) : Int) := of_decide_eq_true (by first | (with_reducible assumption) | assumption); first | exact h_ | (have e_ := (HN21.out); omega) | simpa using h_)
                    obtain ⟨_, hfr23⟩ := Kd.H_at HH21.out (of_decide_eq_true (by first | (with_reducible assumption) | assumption)) (by have h_ : (t236 : Int) < ((x5_1.length : Int) : Int) := of_decide_eq_true (by first | (with_reducible assumption) | assumption); first | exact h_ | (have e_ := (HN21.out); omega) | simpa using h_)
                    have hx23_0 := hcc23 0 _ rfl
                    have hf23_0 := hfr23 0
                    (try simp only [Nat.add_zero] at hx23_0 hf23_0)
                    (try rw [show ((Kd.slice 3 (Kd.int .i64))).sz = 1 from rfl, Nat.mul_one] at hx23_0)
                    (try rw [show ((Kd.slice 3 (Kd.int .i64))).sz = 1 from rfl, Nat.mul_one] at hf23_0)
                    have HP23 := Kd.S_seg0 HH21.out (of_decide_eq_true (by first | (with_reducible assumption) | assumption)) (by have h_ : (t236 : Int) < ((x5_1.length : Int) : Int) := of_decide_eq_true (by first | (with_reducible assumption) | assumption); first | exact h_ | (have e_ := (HN21.out); omega) | simpa using h_) (seg := [.slice Ao25 y244.length co25]) (j := 0) (show 1 ≤ 1 from by decide) (x' := y244) (Kd.M_row HO246.out) (fun _ hk => hk)
                    (try simp only [show ((Kd.slice 3 (Kd.int .i64))).sz = 1 from rfl, Nat.mul_one, Nat.add_zero] at HP23)
                    clear hcc23 hfr23
                    have HS23 := HP23.1
                    rw [← Ny247.out] at HS23
                    have HQ23 := Aside0.mk HS23
                    obtain ⟨_, hgg23⟩ := Kd.R_typed hraw23 go21 rfl
                    have GG23_ := Aside0.mk hgg23
                    clear HP23 HS23 hgg23
                    refine hK.out _ _ ⟨HS0_, HS1_⟩ (fun hHeld => ?_)
                    clear hK K
                    refine norm_ (a' := ?_) ?_ ?_
                    rotate_left
                    · show Act.put _ (some 34) _ = _
                      simp only [Act.put, List.setIfInBounds_toArray, List.set_cons_zero, List.set_cons_succ, i64_w, i32_w]
                      rfl
                    refine pure_ (i := 9) (N := some 35) (v := ?_) (a' := ?_) #[true, true, true, true, true, true, true, true, true, true, false] rfl rfl (any_of HT_.out (by kernel_rfl)) (fun _ _ _ h => h) (Or.inl ⟨by rfl, ?_⟩) ?_ ?_
                    rotate_left
                    · intro w'
                      go_simp
                      with_reducible rfl
                    rotate_left
                    · simp only [Act.put, List.setIfInBounds_toArray, List.set_cons_zero, List.set_cons_succ, i64_w, i32_w]
                      rfl
                    refine last_ (i := 10) (N := none) #[true, true, true, true, true, true, true, true, true, true, true] rfl rfl (one_of HT_.out (by kernel_rfl)) (by decide) (fun K hK => ?_)
                    refine skip_ (w1 := ?_) (by rfl) rfl ?_ ?_
                    rotate_left
                    · go_simp
                      rfl
                    refine hK.out _ _ ?_
                    clear hK K
                    refine done_ (done_of HT_.out (by kernel_rfl)) ?_
                    try go_wp2
                    go_roundg k1
                    case measure => have := HK1.out; omega
                    case rel => exact ⟨(y247), (wrap64 (x12_1 + 1)), (by first | rfl | (simp; done) | (simp [*]; done)), H', ⟨by have := HK1.out; omega⟩, ⟨by (with_reducible repeat (first | apply Kd.S_alloc | apply Kd.S_drewN | apply Kd.S_drew)); exact Kd.S_mono HQ23.out (fun _ _ => trivial)⟩, ⟨by repeat (first | (with_reducible first | exact HB.out | apply below_alloc | apply pw_below_drewN | apply below_drew1 | refine below_set ?_ GB21.out) | exact HB.out)⟩⟩
                  · rw [if_neg c17] at H
                    exact absurd H (by simp)
                · rw [if_neg c16] at H
                  exact absurd H (by simp)
              · rw [if_neg c15] at H
                exact absurd H (by simp)
          · rw [if_neg c7] at H
            exact absurd H (by simp)
        · rw [if_neg c6] at H
          exact absurd H (by simp)
      · rw [if_neg c5] at H
        have c5b0 : decide (x12_1 < (l1.length : Int)) = false := decide_eq_false c5
        clear c5
        obtain rfl := Option.some.inj H
        go_wp2
        go_ret
        exact ⟨_, rfl, Kd.S_lower (by (with_reducible repeat (first | apply Kd.S_alloc | apply Kd.S_drewN | apply Kd.S_drew)); exact HO_5.out) (by have := HSZ.out; omega), HBW.out.trans (Below.mono (by repeat (first | exact HB.out | apply pw_below_drewN | apply below_drew1)) (by have := HSZ.out; omega))⟩

/-! ### impl_FirstFit: function 19 -/
open Go.Shelf in
def impl_FirstFit.layM_ren : Go.Shelf.Ren := ⟨fun | 5 => 41 | 8 => 55 | 7 => 54 | 19 => 75 | 20 => 76 | 10 => 66 | 11 => 67 | 12 => 68 | 13 => 69 | 14 => 70 | 15 => 71 | 16 => 72 | 17 => 73 | 18 => 74 | 30 => 82 | 31 => 83 | 32 => 84 | 33 => 85 | 34 => 86 | 35 => 87 | 40 => 91 | n => n, fun | 23 => 22 | 25 => 3 | 3 => 3 | 32 => 53 | 22 => 22 | 0 => 0 | 44 => 69 | 46 => 71 | 4 => 4 | 36 => 63 | 35 => 62 | 41 => 26 | 5 => 5 | 9 => 9 | 53 => 79 | 57 => 83 | 63 => 85 | 64 => 86 | n => n, fun | n => n⟩
theorem impl_FirstFit.layM : Go.Proofs.SlLaysM.n5 Try.prog impl_FirstFit.layM_ren := {
  mixed := by kernel_rfl
  f5 := ⟨Try.f41.name, by decide, Try.func41.trans (congrArg some (by kernel_rfl))⟩
  f7 := ⟨Try.f54.name, by decide, Try.func54.trans (congrArg some (by kernel_rfl))⟩
  f8 := Try.func55.trans (congrArg some (by kernel_rfl))
  f10 := ⟨Try.f66.name, by decide, Try.func66.trans (congrArg some (by kernel_rfl))⟩
  f11 := ⟨Try.f67.name, by decide, Try.func67.trans (congrArg some (by kernel_rfl))⟩
  f12 := ⟨Try.f68.name, by decide, Try.func68.trans (congrArg some (by kernel_rfl))⟩
  f13 := ⟨Try.f69.name, by decide, Try.func69.trans (congrArg some (by kernel_rfl))⟩
  f14 := ⟨Try.f70.name, by decide, Try.func70.trans (congrArg some (by kernel_rfl))⟩
  f15 := ⟨Try.f71.name, by decide, Try.func71.trans (congrArg some (by kernel_rfl))⟩
  f16 := ⟨Try.f72.name, by decide, Try.func72.trans (congrArg some (by kernel_rfl))⟩
  f17 := ⟨Try.f73.name, by decide, Try.func73.trans (congrArg some (by kernel_rfl))⟩
  f18 := ⟨Try.f74.name, by decide, Try.func74.trans (congrArg some (by kernel_rfl))⟩
  f19 := Try.func75.trans (congrArg some (by kernel_rfl))
  f20 := Try.func76.trans (congrArg some (by kernel_rfl))
  f30 := ⟨Try.f82.name, by decide, Try.func82.trans (congrArg some (by kernel_rfl))⟩
  f31 := Try.func83.trans (congrArg some (by kernel_rfl))
  f32 := Try.func84.trans (congrArg some (by kernel_rfl))
  f33 := ⟨Try.f85.name, by decide, Try.func85.trans (congrArg some (by kernel_rfl))⟩
  f34 := ⟨Try.f86.name, by decide, Try.func86.trans (congrArg some (by kernel_rfl))⟩
  f35 := ⟨Try.f87.name, by decide, Try.func87.trans (congrArg some (by kernel_rfl))⟩
  f40 := ⟨Try.f91.name, by decide, Try.func91.trans (congrArg some (by kernel_rfl))⟩
  t0 := Try.underlying0
  a0 := Try.isAgg0
  z0 := Try.sizeOf0
  v0 := Try.zeroValue0
  t3 := Try.underlying3
  a3 := Try.isAgg3
  z3 := Try.sizeOf3
  v3 := Try.zeroValue3
  t4 := Try.underlying4
  a4 := Try.isAgg4
  z4 := Try.sizeOf4
  v4 := Try.zeroValue4
  t5 := Try.underlying5
  a5 := Try.isAgg5
  z5 := Try.sizeOf5
  v5 := Try.zeroValue5
  t9 := Try.underlying9
  a9 := Try.isAgg9
  z9 := Try.sizeOf9
  v9 := Try.zeroValue9
  t22 := Try.underlying22
  a22 := Try.isAgg22
  z22 := Try.sizeOf22
  v22 := Try.zeroValue22
  t23 := Try.underlying22
  a23 := Try.isAgg22
  z23 := Try.sizeOf22
  v23 := Try.zeroValue22
  t25 := Try.underlying3
  a25 := Try.isAgg3
  z25 := Try.sizeOf3
  v25 := Try.zeroValue3
  t32 := Try.underlying53
  a32 := Try.isAgg53
  z32 := Try.sizeOf53
  v32 := Try.zeroValue53
  t35 := Try.underlying62
  a35 := Try.isAgg62
  z35 := Try.sizeOf62
  v35 := Try.zeroValue62
  t36 := Try.underlying63
  a36 := Try.isAgg63
  z36 := Try.sizeOf63
  v36 := Try.zeroValue63
  t41 := Try.underlying26
  a41 := Try.isAgg26
  z41 := Try.sizeOf26
  v41 := Try.zeroValue26
  t44 := Try.underlying69
  a44 := Try.isAgg69
  z44 := Try.sizeOf69
  v44 := Try.zeroValue69
  t46 := Try.underlying71
  a46 := Try.isAgg71
  z46 := Try.sizeOf71
  v46 := Try.zeroValue71
  t53 := Try.underlying79
  a53 := Try.isAgg79
  z53 := Try.sizeOf79
  v53 := Try.zeroValue79
  t57 := Try.underlying83
  a57 := Try.isAgg83
  z57 := Try.sizeOf83
  v57 := Try.zeroValue83
  t63 := Try.underlying85
  a63 := Try.isAgg85
  z63 := Try.sizeOf85
  v63 := Try.zeroValue85
  t64 := Try.underlying86
  a64 := Try.isAgg86
  z64 := Try.sizeOf86
  v64 := Try.zeroValue86 }

open Go.Sort Go.Shelf in
theorem impl_FirstFit.sorts (v : Value) (o : List Int) (w W : World) (hR : Kd.R (Kd.int .i64) 3 W w.heap.size (fun _ => True) v o) (hB : Below w.heap.size w W) (hs : o.length < 4611686018427387904) : Calls Try.prog 41 #[v] W fun e w' => e = .returned (.tuple #[]) ∧ Kd.R (Kd.int .i64) 3 w' w.heap.size (fun _ => True) v (sortI o) ∧ Below w.heap.size w w' := by
  rcases List.eq_nil_or_concat o with rfl | ⟨o', x, ho⟩
  · obtain ⟨A1, c1, rfl⟩ := Kd.R_slice hR
    have h := AnyM.slices_Sort_int_none impl_FirstFit.layM A1 c1 W
    change Calls Try.prog 41 _ _ _ at h
    refine h.mono ?_
    rintro e w' ⟨rfl, rfl⟩
    exact ⟨rfl, by rw [show sortI [] = [] by simp [sortI]]; exact hR, hB⟩
  · have hpos : 0 < o.length := by rw [ho]; simp
    obtain ⟨g, cap, rfl, _, _, _⟩ := Kd.R_form hR hpos
    have hg := Kd.R_base hR g (by simp [Value.ownBlock])
    have hlt := Kd.R_lt hR g (by simp [Value.ownBlock])
    have hR' : Kd.R (Kd.int .i64) 3 W w.heap.size (fun _ => True) (.slice (some ⟨g, 0, none⟩) o.length cap) (o.toArray.toList.map id) := by simpa using hR
    have h0 : RowAt (α := Int) id 3 W w g o.length cap w.heap.size (fun _ => True) o.toArray := RowAt.start (holds_of_R hR') hR' hB
    have h := AnyM.slices_Sort_int impl_FirstFit.layM g 0 cap o W (holds_of_R (f := id) hR') hlt hs
    change Calls Try.prog 41 _ _ _ at h
    refine h.mono ?_
    rintro e w' ⟨rfl, n, os, rfl⟩
    have hsz : (o.mergeSort fun x y => decide (x ≤ y)).toArray.size = o.toArray.size := by simp [List.length_mergeSort]
    have h1 := h0.all hg hsz
    have hrow := h1.row
    have hbl : Below (putRow (encF (α := Int) id) W g 0 (o.mergeSort fun x y => decide (x ≤ y)).toArray).heap.size (putRow (encF (α := Int) id) W g 0 (o.mergeSort fun x y => decide (x ≤ y)).toArray) (grow (putRow (Value.int .i64) (Sort.ahead W n) g 0 (o.mergeSort fun x y => decide (x ≤ y)).toArray) os) := by
      rw [putRow_ahead]
      exact below_grown _ n os
    refine ⟨rfl, ?_, below_step h1.below hbl⟩
    have h2 := Kd.R_below hrow hbl
    rw [show (o.mergeSort fun x y => decide (x ≤ y)).toArray.toList.map id = sortI o by unfold sortI; simp] at h2
    exact h2
def impl_FirstFit.f (k : Nat) (l0 : List Int) : Option ((List (List Int)) × Bool) := (impl_GoodItems.f l0).bind fun t => if t = true then ((impl_rank.f l0).bind fun o => if o.length < 4611686018427387904 then ((impl_firstFit.f k l0 (sortI o)).bind fun r => some (r, true)) else none) else some (([] : List (List Int)), false)
theorem impl_FirstFit.mono : ∀ a0 k, LeO (impl_FirstFit.f k a0) (impl_FirstFit.f (k + 1) a0) := fun a0 k => by
  unfold impl_FirstFit.f
  repeat' first
      | (with_reducible exact impl_firstFit.mono _ _ _)
      | (with_reducible exact LeO.refl _)
      | (with_reducible exact LeO.none _)
      | (with_reducible refine LeO.ite ?_ ?_)
      | (with_reducible refine LeO.bind ?_ (fun _ => ?_))
      | exact impl_firstFit.mono _ _ _
      | exact LeO.refl _
set_option maxHeartbeats 4000000 in
set_option maxRecDepth 100000 in
theorem impl_FirstFit.calls (k : Nat) (A0 : Option Addr) (c0 : Nat) (l0 : List Int) (r1 : List (List Int)) (r2 : Bool) (w : World) (hr0 : Kd.C (Kd.int .i64) w A0 l0.length l0) (hc0 : l0.length ≤ c0) (h : impl_FirstFit.f k l0 = some (r1, r2)) :
    Calls Try.prog 19 #[.slice A0 l0.length c0] w fun e w' => ∃ v0_ : Value, e = .returned (.tuple #[v0_, .bool r2]) ∧ Kd.S (Kd.slice 3 (Kd.int .i64)) 22 w' w.heap.size (fun _ => True) v0_ r1 ∧ Below w.heap.size w w' := by
  unfold impl_FirstFit.f at h
  obtain ⟨t, ht, h⟩ := Option.bind_eq_some_iff.mp h
  have HG := Aside0.mk (impl_GoodItems.calls A0 c0 l0 t w hr0 hc0 ht)
  have HR0 := Aside0.mk hr0
  have HC0 := Aside0.mk hc0
  clear ht hr0 hc0
  cases t with
  | false =>
    simp only [Bool.false_eq_true, if_false, Option.some.injEq, Prod.mk.injEq] at h
    obtain ⟨rfl, rfl⟩ := h
    go_enter Try.func19, Try.ntmps19
    go_wp2_with fail
    go_at_call 12
    refine HG.out.mono ?_
    rintro e w1 ⟨rfl, hb⟩
    have HB := Aside0.mk hb
    clear hb
    go_wp2
    go_ret2
    exact ⟨_, rfl, Kd.S_nil _ _ _ _ _, HB.out⟩
  | true =>
    rw [if_pos rfl] at h
    obtain ⟨o, hrk, h⟩ := Option.bind_eq_some_iff.mp h
    split at h
    case isFalse => cases h
    case isTrue hlen =>
    obtain ⟨r, hff, h⟩ := Option.bind_eq_some_iff.mp h
    simp only [Option.some.injEq, Prod.mk.injEq] at h
    obtain ⟨rfl, rfl⟩ := h
    have HRK := Aside0.mk hrk
    have HFF := Aside0.mk hff
    have HL := Aside0.mk hlen
    clear hrk hff hlen
    go_enter Try.func19, Try.ntmps19
    go_wp2_with fail
    go_at_call 12
    refine HG.out.mono ?_
    rintro e w1 ⟨rfl, hb⟩
    have HB1 := Aside0.mk hb
    clear hb
    go_wp2_with fail
    go_at_call 40
    refine (impl_rank.calls A0 c0 l0 o w1 (Kd.C_below HR0.out HB1.out) HC0.out HRK.out).mono ?_
    rintro e w2 ⟨v, rfl, hR, hb⟩
    have HR2 := Aside0.mk (Kd.R_lower hR (below_size HB1.out))
    have HB2 := Aside0.mk (below_step HB1.out hb)
    clear hR hb
    go_wp2_with fail
    go_at_call 41
    refine (impl_FirstFit.sorts v o w w2 HR2.out HB2.out HL.out).mono ?_
    rintro e w3 ⟨rfl, hR, hb⟩
    obtain ⟨A1, c1, rfl⟩ := Kd.R_slice hR
    have HR3 := Aside0.mk hR
    have HB3 := Aside0.mk hb
    clear hR hb
    go_wp2_with fail
    go_at_call 42
    refine (impl_firstFit.calls k A0 c0 l0 A1 c1 (sortI o) r w3 (Kd.C_below HR0.out HB3.out) HC0.out (Kd.R_reads' HR3.out).2.2 (Kd.R_reads' HR3.out).2.1 HFF.out).mono ?_
    rintro e w4 ⟨v4, rfl, hS, hb⟩
    have HS4 := Aside0.mk (Kd.S_lower hS (below_size HB3.out))
    have HB4 := Aside0.mk (below_step HB3.out hb)
    clear hS hb
    go_wp2
    go_ret2
    exact ⟨_, rfl, HS4.out, HB4.out⟩

/-! ### laws_eqIntSS: function 20 -/
def laws_eqIntSS.l0 : Nat → List (List Int) → List (List Int) → Int → Option (Bool)
  | 0, _, _, _ => none
  | k + 1, x0, x1, x5 => if x5 < (x0.length : Int) then (if 0 ≤ x5 then (if x5 < (x1.length : Int) then ((laws_eqIntS.f k (rd_L1 x0 x5) (rd_L1 x1 x5)).bind fun t186 => (if t186 = true then (laws_eqIntSS.l0 k x0 x1 (wrap64 (x5 + 1))) else (some false))) else (none)) else (none)) else (some true)
def laws_eqIntSS.f (k : Nat) (l0 : List (List Int)) (l1 : List (List Int)) : Option (Bool) := if (l0.length : Int) = (l1.length : Int) then (laws_eqIntSS.l0 k l0 l1 0) else (some false)
theorem laws_eqIntSS.mono_l : ∀ k, (∀ y0 y1 y2, LeO (laws_eqIntSS.l0 k y0 y1 y2) (laws_eqIntSS.l0 (k + 1) y0 y1 y2))
  | 0 => fun _ _ _ r h => by simp [laws_eqIntSS.l0] at h
  | k + 1 => by
    have ih0 := laws_eqIntSS.mono_l k
    · intro y0 y1 y2
      unfold laws_eqIntSS.l0
      repeat' first
      | (with_reducible exact ih0 _ _ _)
      | (with_reducible exact laws_eqIntS.mono _ _ _)
      | (with_reducible exact LeO.refl _)
      | (with_reducible exact LeO.none _)
      | (with_reducible refine LeO.ite ?_ ?_)
      | (with_reducible refine LeO.bind ?_ (fun _ => ?_))
      | exact ih0 _ _ _
      | exact laws_eqIntS.mono _ _ _
      | exact LeO.none _
      | refine LeO.ite ?_ ?_
      | refine LeO.bind ?_ (fun _ => ?_)
theorem laws_eqIntSS.mono : ∀ a0 a1 k, LeO (laws_eqIntSS.f k a0 a1) (laws_eqIntSS.f (k + 1) a0 a1) := by
  intro a0 a1 k
  have ih0 := laws_eqIntSS.mono_l k
  unfold laws_eqIntSS.f
  repeat' first
      | (with_reducible exact ih0 _ _ _)
      | (with_reducible exact laws_eqIntS.mono _ _ _)
      | (with_reducible exact LeO.refl _)
      | (with_reducible exact LeO.none _)
      | (with_reducible refine LeO.ite ?_ ?_)
      | (with_reducible refine LeO.bind ?_ (fun _ => ?_))
      | exact ih0 _ _ _
      | exact laws_eqIntS.mono _ _ _
      | exact LeO.none _
      | refine LeO.ite ?_ ?_
      | refine LeO.bind ?_ (fun _ => ?_)
set_option maxHeartbeats 8000000 in
set_option maxRecDepth 100000 in
theorem laws_eqIntSS.calls (k : Nat) (A0 : Option Addr) (c0 : Nat) (l0 : List (List Int)) (A1 : Option Addr) (c1 : Nat) (l1 : List (List Int)) (r : Bool) (w : World) (hr0 : Kd.C (Kd.slice 3 (Kd.int .i64)) w A0 l0.length l0) (hc0 : l0.length ≤ c0) (hr1 : Kd.C (Kd.slice 3 (Kd.int .i64)) w A1 l1.length l1) (hc1 : l1.length ≤ c1) (h : laws_eqIntSS.f k l0 l1 = some r) :
    Calls Try.prog 20 #[.slice A0 l0.length c0, .slice A1 l1.length c1] w fun e w' => e = .returned (.bool r) ∧ Drawn0 w w' := by
  have HR0 := Aside0.mk hr0
  have HC0 := Aside0.mk hc0
  clear hr0 hc0
  have HR1 := Aside0.mk hr1
  have HC1 := Aside0.mk hc1
  clear hr1 hc1
  have H : (if (l0.length : Int) = (l1.length : Int) then (laws_eqIntSS.l0 k l0 l1 0) else (some false)) = some r := h
  clear h
  by_cases c3 : (l0.length : Int) = (l1.length : Int)
  · rw [if_pos c3] at H
    have c3b0 : ((l0.length : Int) == (l1.length : Int)) = true := beq_iff_eq.mpr c3
    have c3b1 : ((l0.length : Int) != (l1.length : Int)) = false := bne_eq_false_iff_eq.mpr c3
    have c3b2 : (l0.length == l1.length) = true := by first | simpa using c3 | (simp at c3 ⊢; omega)
    clear c3
    have H' := Aside0.mk H
    clear H
    go_enter Try.func20, Try.ntmps20
    go_wp2
    repeat (go_quiet (fail); try go_wp2)
    go_loopg [5] k (fun kq v5 w' => ∃ (x5_1 : Int), v5 = .int .i64 x5_1 ∧ Aside0 (laws_eqIntSS.l0 kq l0 l1 x5_1 = some r) ∧ Aside0 (kq ≤ k) ∧ Drawn0 w w')
    case atStart => exact ⟨(0), (by first | rfl | (simp; done) | (simp [*]; done)), H', ⟨Nat.le_refl _⟩, by repeat (first | exact Drawn0.refl _ | apply Drawn0.step)⟩
    case round =>
      clear H'
      try clear c1
      try clear c2
      try clear p2
      try clear c3
      try clear c3b0
      try clear c3b1
      try clear c3b2
      obtain ⟨x5_1, rfl, HA, HK1, ⟨m1, rfl⟩⟩ := hrel
      cases gk with
      | zero => exact absurd HA.out (by simp [laws_eqIntSS.l0])
      | succ k1 =>
        have H := HA.out
        clear HA
        simp only [laws_eqIntSS.l0] at H
        by_cases c4 : x5_1 < (l0.length : Int)
        · rw [if_pos c4] at H
          have c4b0 : decide (x5_1 < (l0.length : Int)) = true := decide_eq_true c4
          clear c4
          by_cases c5 : 0 ≤ x5_1
          · rw [if_pos c5] at H
            have c5b0 : decide (0 ≤ x5_1) = true := decide_eq_true c5
            clear c5
            by_cases c6 : x5_1 < (l1.length : Int)
            · rw [if_pos c6] at H
              have c6b0 : decide (x5_1 < (l1.length : Int)) = true := decide_eq_true c6
              clear c6
              replace H := Option.bind_eq_some_iff.mp H
              obtain ⟨t186, A70, H⟩ := H
              replace H : (if t186 = true then (laws_eqIntSS.l0 k1 l0 l1 (wrap64 (x5_1 + 1))) else (some false)) = some r := H
              have A7 := Aside0.mk A70
              clear A70
              by_cases c8 : t186 = true
              · subst c8
                have H1 : (laws_eqIntSS.l0 k1 l0 l1 (wrap64 (x5_1 + 1))) = some r := by rw [if_pos rfl] at H; exact H
                clear H
                have H := H1
                clear H1
                have H' := Aside0.mk H
                clear H
                have p184 : 0 ≤ (x5_1 : Int) := of_decide_eq_true (by first | (with_reducible assumption) | assumption)
                have q184 : x5_1 < (l0.length : Int) := of_decide_eq_true (by first | (with_reducible assumption) | assumption)
                obtain ⟨ad184, A184_0, c184_0, e184, hx184_0, hl184_0, hi184_0⟩ := at_L1 HR0.out x5_1 p184 q184
                cases e184
                have HR184_0 := Aside0.mk hi184_0
                have HC184_0 := Aside0.mk hl184_0
                clear hi184_0 hl184_0
                replace p184 := eq_true p184
                replace q184 := eq_true q184
                have p185 : 0 ≤ (x5_1 : Int) := of_decide_eq_true (by first | (with_reducible assumption) | assumption)
                have q185 : x5_1 < (l1.length : Int) := of_decide_eq_true (by first | (with_reducible assumption) | assumption)
                obtain ⟨ad185, A185_0, c185_0, e185, hx185_0, hl185_0, hi185_0⟩ := at_L1 HR1.out x5_1 p185 q185
                cases e185
                have HR185_0 := Aside0.mk hi185_0
                have HC185_0 := Aside0.mk hl185_0
                clear hi185_0 hl185_0
                replace p185 := eq_true p185
                replace q185 := eq_true q185
                go_wp2_with (first | (go_at_call 13; (with_reducible refine (laws_eqIntS.calls k1 _ _ (rd_L1 l0 x5_1) _ _ (rd_L1 l1 x5_1) true _ ?side1 ?side2 ?side3 ?side4 A7.out).mono ?_); (case side1 => repeat (first | exact HR184_0.out | (with_reducible refine Kd.C_alloc ?_ _) | (with_reducible refine Kd.C_drewN ?_ _) | (with_reducible refine Kd.C_drew ?_))); (case side2 => exact HC184_0.out); (case side3 => repeat (first | exact HR185_0.out | (with_reducible refine Kd.C_alloc ?_ _) | (with_reducible refine Kd.C_drewN ?_ _) | (with_reducible refine Kd.C_drew ?_))); (case side4 => exact HC185_0.out); rintro e w' ⟨rfl, ⟨nd, rfl⟩⟩; (try first | exact ⟨rfl, _, World.drewN_drewN _ _ _⟩ | exact ⟨rfl, _, Eq.trans (World.drewN_drewN _ _ _) (congrArg (World.drewN _) (Nat.add_assoc _ _ _))⟩)))
                repeat (go_quiet (first | (go_at_call 13; (with_reducible refine (laws_eqIntS.calls k1 _ _ (rd_L1 l0 x5_1) _ _ (rd_L1 l1 x5_1) true _ ?side1 ?side2 ?side3 ?side4 A7.out).mono ?_); (case side1 => repeat (first | exact HR184_0.out | (with_reducible refine Kd.C_alloc ?_ _) | (with_reducible refine Kd.C_drewN ?_ _) | (with_reducible refine Kd.C_drew ?_))); (case side2 => exact HC184_0.out); (case side3 => repeat (first | exact HR185_0.out | (with_reducible refine Kd.C_alloc ?_ _) | (with_reducible refine Kd.C_drewN ?_ _) | (with_reducible refine Kd.C_drew ?_))); (case side4 => exact HC185_0.out); rintro e w' ⟨rfl, ⟨nd, rfl⟩⟩; (try first | exact ⟨rfl, _, World.drewN_drewN _ _ _⟩ | exact ⟨rfl, _, Eq.trans (World.drewN_drewN _ _ _) (congrArg (World.drewN _) (Nat.add_assoc _ _ _))⟩))); try go_wp2_with (first | (go_at_call 13; (with_reducible refine (laws_eqIntS.calls k1 _ _ (rd_L1 l0 x5_1) _ _ (rd_L1 l1 x5_1) true _ ?side1 ?side2 ?side3 ?side4 A7.out).mono ?_); (case side1 => repeat (first | exact HR184_0.out | (with_reducible refine Kd.C_alloc ?_ _) | (with_reducible refine Kd.C_drewN ?_ _) | (with_reducible refine Kd.C_drew ?_))); (case side2 => exact HC184_0.out); (case side3 => repeat (first | exact HR185_0.out | (with_reducible refine Kd.C_alloc ?_ _) | (with_reducible refine Kd.C_drewN ?_ _) | (with_reducible refine Kd.C_drew ?_))); (case side4 => exact HC185_0.out); rintro e w' ⟨rfl, ⟨nd, rfl⟩⟩; (try first | exact ⟨rfl, _, World.drewN_drewN _ _ _⟩ | exact ⟨rfl, _, Eq.trans (World.drewN_drewN _ _ _) (congrArg (World.drewN _) (Nat.add_assoc _ _ _))⟩))))
                go_roundg k1
                case measure => have := HK1.out; omega
                case rel => exact ⟨(wrap64 (x5_1 + 1)), (by first | rfl | (simp; done) | (simp [*]; done)), H', ⟨by have := HK1.out; omega⟩, by repeat (first | exact Drawn0.refl _ | apply Drawn0.step)⟩
              · replace c8 := Bool.eq_false_iff.mpr c8
                subst c8
                have H1 : (some false) = some r := by rw [if_neg (show ¬ (false = true) by decide)] at H; exact H
                clear H
                have H := H1
                clear H1
                obtain rfl := Option.some.inj H
                have p184 : 0 ≤ (x5_1 : Int) := of_decide_eq_true (by first | (with_reducible assumption) | assumption)
                have q184 : x5_1 < (l0.length : Int) := of_decide_eq_true (by first | (with_reducible assumption) | assumption)
                obtain ⟨ad184, A184_0, c184_0, e184, hx184_0, hl184_0, hi184_0⟩ := at_L1 HR0.out x5_1 p184 q184
                cases e184
                have HR184_0 := Aside0.mk hi184_0
                have HC184_0 := Aside0.mk hl184_0
                clear hi184_0 hl184_0
                replace p184 := eq_true p184
                replace q184 := eq_true q184
                have p185 : 0 ≤ (x5_1 : Int) := of_decide_eq_true (by first | (with_reducible assumption) | assumption)
                have q185 : x5_1 < (l1.length : Int) := of_decide_eq_true (by first | (with_reducible assumption) | assumption)
                obtain ⟨ad185, A185_0, c185_0, e185, hx185_0, hl185_0, hi185_0⟩ := at_L1 HR1.out x5_1 p185 q185
                cases e185
                have HR185_0 := Aside0.mk hi185_0
                have HC185_0 := Aside0.mk hl185_0
                clear hi185_0 hl185_0
                replace p185 := eq_true p185
                replace q185 := eq_true q185
                go_wp2_with (first | (go_at_call 13; (with_reducible refine (laws_eqIntS.calls k1 _ _ (rd_L1 l0 x5_1) _ _ (rd_L1 l1 x5_1) false _ ?side1 ?side2 ?side3 ?side4 A7.out).mono ?_); (case side1 => repeat (first | exact HR184_0.out | (with_reducible refine Kd.C_alloc ?_ _) | (with_reducible refine Kd.C_drewN ?_ _) | (with_reducible refine Kd.C_drew ?_))); (case side2 => exact HC184_0.out); (case side3 => repeat (first | exact HR185_0.out | (with_reducible refine Kd.C_alloc ?_ _) | (with_reducible refine Kd.C_drewN ?_ _) | (with_reducible refine Kd.C_drew ?_))); (case side4 => exact HC185_0.out); rintro e w' ⟨rfl, ⟨nd, rfl⟩⟩; (try first | exact ⟨rfl, _, World.drewN_drewN _ _ _⟩ | exact ⟨rfl, _, Eq.trans (World.drewN_drewN _ _ _) (congrArg (World.drewN _) (Nat.add_assoc _ _ _))⟩)))
                repeat (go_quiet (first | (go_at_call 13; (with_reducible refine (laws_eqIntS.calls k1 _ _ (rd_L1 l0 x5_1) _ _ (rd_L1 l1 x5_1) false _ ?side1 ?side2 ?side3 ?side4 A7.out).mono ?_); (case side1 => repeat (first | exact HR184_0.out | (with_reducible refine Kd.C_alloc ?_ _) | (with_reducible refine Kd.C_drewN ?_ _) | (with_reducible refine Kd.C_drew ?_))); (case side2 => exact HC184_0.out); (case side3 => repeat (first | exact HR185_0.out | (with_reducible refine Kd.C_alloc ?_ _) | (with_reducible refine Kd.C_drewN ?_ _) | (with_reducible refine Kd.C_drew ?_))); (case side4 => exact HC185_0.out); rintro e w' ⟨rfl, ⟨nd, rfl⟩⟩; (try first | exact ⟨rfl, _, World.drewN_drewN _ _ _⟩ | exact ⟨rfl, _, Eq.trans (World.drewN_drewN _ _ _) (congrArg (World.drewN _) (Nat.add_assoc _ _ _))⟩))); try go_wp2_with (first | (go_at_call 13; (with_reducible refine (laws_eqIntS.calls k1 _ _ (rd_L1 l0 x5_1) _ _ (rd_L1 l1 x5_1) false _ ?side1 ?side2 ?side3 ?side4 A7.out).mono ?_); (case side1 => repeat (first | exact HR184_0.out | (with_reducible refine Kd.C_alloc ?_ _) | (with_reducible refine Kd.C_drewN ?_ _) | (with_reducible refine Kd.C_drew ?_))); (case side2 => exact HC184_0.out); (case side3 => repeat (first | exact HR185_0.out | (with_reducible refine Kd.C_alloc ?_ _) | (with_reducible refine Kd.C_drewN ?_ _) | (with_reducible refine Kd.C_drew ?_))); (case side4 => exact HC185_0.out); rintro e w' ⟨rfl, ⟨nd, rfl⟩⟩; (try first | exact ⟨rfl, _, World.drewN_drewN _ _ _⟩ | exact ⟨rfl, _, Eq.trans (World.drewN_drewN _ _ _) (congrArg (World.drewN _) (Nat.add_assoc _ _ _))⟩))))
                go_ret
                exact ⟨by first | rfl | (simp; done) | (simp [*]; done), by repeat (first | exact Drawn0.refl _ | apply Drawn0.step)⟩
            · rw [if_neg c6] at H
              exact absurd H (by simp)
          · rw [if_neg c5] at H
            exact absurd H (by simp)
        · rw [if_neg c4] at H
          have c4b0 : decide (x5_1 < (l0.length : Int)) = false := decide_eq_false c4
          clear c4
          obtain rfl := Option.some.inj H
          go_wp2
          repeat (go_quiet (fail); try go_wp2)
          go_ret
          exact ⟨by first | rfl | (simp; done) | (simp [*]; done), by repeat (first | exact Drawn0.refl _ | apply Drawn0.step)⟩
  · rw [if_neg c3] at H
    have c3b0 : ((l0.length : Int) == (l1.length : Int)) = false := beq_eq_false_iff_ne.mpr c3
    have c3b1 : ((l0.length : Int) != (l1.length : Int)) = true := bne_iff_ne.mpr c3
    have c3b2 : (l0.length == l1.length) = false := by first | simpa using c3 | (simp at c3 ⊢; omega)
    obtain rfl := Option.some.inj H
    go_enter Try.func20, Try.ntmps20
    go_wp2
    repeat (go_quiet (fail); try go_wp2)
    go_ret
    exact ⟨by first | rfl | (simp; done) | (simp [*]; done), by repeat (first | exact Drawn0.refl _ | apply Drawn0.step)⟩

end Go.Proofs.Ytojoglgjfocgiaa.GLFirstFit
