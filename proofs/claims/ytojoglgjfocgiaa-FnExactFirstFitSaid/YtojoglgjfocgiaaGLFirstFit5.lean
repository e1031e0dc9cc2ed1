-- Written by a program of this session (gprint.py), over the kit's print: not trusted: Lean checks it.
import Derived.Test.YtojoglgjfocgiaaGLFirstFit0
import Derived.Test.YtojoglgjfocgiaaGLFirstFit1
import Derived.Test.YtojoglgjfocgiaaGLFirstFit3
import Derived.Test.YtojoglgjfocgiaaGLFirstFit4
namespace Go.Proofs.Ytojoglgjfocgiaa.GLFirstFit
open Go.RowKit Go.Proofs.YtojoglgjfocgiaaW.PrintWords Go.Proofs.YtojoglgjfocgiaaW.PrintLast Go.Proofs.YtojoglgjfocgiaaW.PrintMore Go.Proofs.YtojoglgjfocgiaaW.PrintOwn
attribute [local go_sem] max2_int min2_int max_two min_two max_three min_three max_four min_four   -- for this text's walks alone
set_option linter.unusedVariables false
set_option linter.unusedSimpArgs false

/-! ### laws_markIntS: function 21 -/
def laws_markIntS.l0 : Nat → List Int → Int → Int → Option (Int × List Int)
  | 0, _, _, _ => none
  | k + 1, x0, x1, x5 => if x5 < (x0.length : Int) then (if 0 ≤ x5 then (laws_markIntS.l0 k (x0.set (x5 : Int).toNat x1) (wrap64 (x1 + 1)) (wrap64 (x5 + 1))) else (none)) else (some (x1, x0))
def laws_markIntS.f (k : Nat) (l0 : List Int) (a1 : Int) : Option (Int × List Int) := laws_markIntS.l0 k l0 a1 0
theorem laws_markIntS.mono_l : ∀ k, (∀ y0 y1 y2, LeO (laws_markIntS.l0 k y0 y1 y2) (laws_markIntS.l0 (k + 1) y0 y1 y2))
  | 0 => fun _ _ _ r h => by simp [laws_markIntS.l0] at h
  | k + 1 => by
    have ih0 := laws_markIntS.mono_l k
    · intro y0 y1 y2
      unfold laws_markIntS.l0
      repeat' first
      | (with_reducible exact ih0 _ _ _)
      | (with_reducible exact LeO.refl _)
      | (with_reducible exact LeO.none _)
      | (with_reducible refine LeO.ite ?_ ?_)
      | (with_reducible refine LeO.bind ?_ (fun _ => ?_))
      | exact ih0 _ _ _
      | exact LeO.none _
      | refine LeO.ite ?_ ?_
      | refine LeO.bind ?_ (fun _ => ?_)
theorem laws_markIntS.mono : ∀ a0 a1 k, LeO (laws_markIntS.f k a0 a1) (laws_markIntS.f (k + 1) a0 a1) := by
  intro a0 a1 k
  have ih0 := laws_markIntS.mono_l k
  unfold laws_markIntS.f
  repeat' first
      | (with_reducible exact ih0 _ _ _)
      | (with_reducible exact LeO.refl _)
      | (with_reducible exact LeO.none _)
      | (with_reducible refine LeO.ite ?_ ?_)
      | (with_reducible refine LeO.bind ?_ (fun _ => ?_))
      | exact ih0 _ _ _
      | exact LeO.none _
      | refine LeO.ite ?_ ?_
      | refine LeO.bind ?_ (fun _ => ?_)
set_option maxHeartbeats 8000000 in
set_option maxRecDepth 100000 in
theorem laws_markIntS.calls (k : Nat) (P0_ : Nat → Prop) (u9000_ : Value) (l0 : List Int) (a1 : Int) (r1 : Int) (r2 : List Int) (w0 w : World) (hB : Below w0.heap.size w0 w) (ho0 : Kd.R (Kd.int .i64) 3 w w0.heap.size P0_ u9000_ l0) (h : laws_markIntS.f k l0 a1 = some (r1, r2)) :
    Calls Try.prog 21 #[u9000_, .int .i64 a1] w fun e w' => e = .returned (.int .i64 r1) ∧ Kd.R (Kd.int .i64) 3 w' w0.heap.size (fun k_ => (P0_ k_ ∨ w.heap.size ≤ k_)) u9000_ r2 ∧ Below w0.heap.size w0 w' ∧ Kept w w' (fun k_ => P0_ k_) := by
  have HO0 := Aside0.mk (show Kd.R (Kd.int .i64) 3 w w0.heap.size (fun k_ => (P0_ k_ ∨ w.heap.size ≤ k_)) u9000_ l0 from Kd.R_mono ho0 (fun k_ hk => (.inl hk)))
  have HK := Aside0.mk (Kept.refl w (fun k_ => P0_ k_))
  have HW0 := Aside0.mk hB.size
  have HB := Aside0.mk hB
  clear hB
  have H : (laws_markIntS.l0 k l0 a1 0) = some (r1, r2) := h
  clear h
  have H' := Aside0.mk H
  clear H
  go_enter Try.func21, Try.ntmps21
  go_wp2
  go_loopg [1, 5] k (fun kq v1 v5 w' => ∃ (x0_1 : List Int) (x1_1 : Int) (x5_1 : Int), v1 = .int .i64 x1_1 ∧ v5 = .int .i64 x5_1 ∧ Aside0 (laws_markIntS.l0 kq x0_1 x1_1 x5_1 = some (r1, r2)) ∧ Aside0 (kq ≤ k) ∧ Aside0 (Kd.R (Kd.int .i64) 3 w' w0.heap.size (fun k_ => (P0_ k_ ∨ w.heap.size ≤ k_)) u9000_ x0_1) ∧ Aside0 (Kept w w' (fun k_ => P0_ k_)) ∧ Aside0 (Below w0.heap.size w0 w'))
  case atStart => exact ⟨(l0), (a1), (0), (by first | rfl | (simp; done) | (simp [*]; done)), (by first | rfl | (simp; done) | (simp [*]; done)), H', ⟨Nat.le_refl _⟩, ⟨by (with_reducible repeat (first | apply Kd.R_alloc | apply Kd.R_drewN | apply Kd.R_drew)); exact HO0.out⟩, ⟨by repeat (first | (with_reducible first | exact HK.out | apply Kept.alloc | apply Kept.drewN | apply Kept.drew) | exact HK.out)⟩, ⟨by repeat (first | (with_reducible first | exact HB.out | apply below_alloc | apply pw_below_drewN | apply below_drew1) | exact HB.out)⟩⟩
  case round =>
    clear H'
    try clear c2
    try clear p2
    obtain ⟨x0_1, x1_1, x5_1, rfl, rfl, HA, HK1, HO_0, HK, HB⟩ := hrel
    cases gk with
    | zero => exact absurd HA.out (by simp [laws_markIntS.l0])
    | succ k1 =>
      have H := HA.out
      clear HA
      simp only [laws_markIntS.l0] at H
      by_cases c3 : x5_1 < (x0_1.length : Int)
      · rw [if_pos c3] at H
        have c3b0 : decide (x5_1 < (x0_1.length : Int)) = true := decide_eq_true c3
        clear c3
        by_cases c4 : 0 ≤ x5_1
        · rw [if_pos c4] at H
          have c4b0 : decide (0 ≤ x5_1) = true := decide_eq_true c4
          clear c4
          obtain ⟨y187, hy187⟩ : ∃ y_ : List Int, y_ = (x0_1.set (x5_1 : Int).toNat x1_1) := ⟨_, rfl⟩
          replace H : (laws_markIntS.l0 k1 y187 (wrap64 (x1_1 + 1)) (wrap64 (x5_1 + 1))) = some (r1, r2) := by first | (rw [hy187]; with_reducible exact H) | (have H2_ := (Option.bind_some _ _).symm.trans H; rw [hy187]; with_reducible exact H2_) | (have H2_ := (Option.bind_some _ _).symm.trans H; with_reducible exact H2_) | with_reducible exact H | (rw [hy187]; exact H) | exact H
          have Ny187 := Aside0.mk hy187
          clear hy187
          have H' := Aside0.mk H
          clear H
          obtain ⟨Ao6, co6, eo6⟩ := Kd.R_slice HO_0.out
          subst eo6
          have p5 : 0 ≤ (x5_1 : Int) := of_decide_eq_true (by first | (with_reducible assumption) | assumption)
          have q5 : (x5_1 : Int) < ((x0_1.length : Int) : Int) := of_decide_eq_true (by first | (with_reducible assumption) | assumption)
          obtain ⟨go5, co5, eo5, gb5, gl5, cl5, HG5⟩ := Kd.R_form HO_0.out (by omega)
          (first | cases eo5 | (injection eo5 with ea_ en_ ec_; (first | subst ea_ | (injection ea_ with ea_; subst ea_)); subst ec_; clear en_))
          have GB5 := Aside0.mk gb5
          have GG5 := Aside0.mk HG5
          clear gb5 gl5 HG5
          have HMgo5 := Aside0.mk (show (P0_ go5 ∨ w.heap.size ≤ go5) from (HO_0.out.1 _ rfl))
          obtain ⟨hx5_0, hf5_0⟩ := Kd.R_celln 0 HO_0.out (x5_1 : Int) p5 q5
          replace p5 := eq_true p5
          replace q5 := eq_true q5
          have HP7 := Kd.R_putg HO_0.out (x5_1 : Int) x1_1
          go_wp2_with (first | ((with_reducible refine gate_store (t := 3) (p := 15) rfl ?_); refine store_event (t := 3) (p := 15) (v := ?vo_w8) (w1 := (wr.setCell ⟨go5, (x5_1 : Int).toNat, none⟩ (.int .i64 x1_1))) ?hg ?ho ?hn ?hr ?_; (case ho => rfl); (case hg => rfl); (case hn => rfl); (case hr => first | (go_simp; done) | (go_simp; rfl)); intro w8 hw; have hg : wr.grownBy w8 (some go5) := (by rw [hw]; exact HP7.2); have hp_ : Kd.R (Kd.int .i64) 3 w8 w0.heap.size (fun k_ => (P0_ k_ ∨ w.heap.size ≤ k_)) (.slice (some ⟨go5, 0, none⟩) x0_1.length co6) y187 := (by rw [hw, Ny187.out]; exact HP7.1); clear HP7; have n0_ := Aside0.mk (hp_); have n1_ := Aside0.mk ((by rw [hw]; exact below_set (HB.out) GB5.out : Below w0.heap.size w0 w8)); have n2_ := Aside0.mk (Kept.of_grown (S := (fun k_ => P0_ k_)) hg (by repeat (first | (with_reducible first | exact HK.out | apply Kept.alloc | apply Kept.drewN | apply Kept.drew) | exact HK.out)) (fun k_ e_ => (HO_0.out.1 k_ e_))); clear HO_0; clear HB; clear HK; have HO_0 := n0_; have HB := n1_; have HK := n2_; clear n0_ n1_ n2_; clear hg hw hp_))
          go_roundg k1
          case measure => have := HK1.out; omega
          case rel => exact ⟨(y187), (wrap64 (x1_1 + 1)), (wrap64 (x5_1 + 1)), (by first | rfl | (simp; done) | (simp [*]; done)), (by first | rfl | (simp; done) | (simp [*]; done)), H', ⟨by have := HK1.out; omega⟩, ⟨by (with_reducible repeat (first | apply Kd.R_alloc | apply Kd.R_drewN | apply Kd.R_drew)); exact HO_0.out⟩, ⟨by repeat (first | (with_reducible first | exact HK.out | apply Kept.alloc | apply Kept.drewN | apply Kept.drew) | exact HK.out)⟩, ⟨by repeat (first | (with_reducible first | exact HB.out | apply below_alloc | apply pw_below_drewN | apply below_drew1) | exact HB.out)⟩⟩
        · rw [if_neg c4] at H
          exact absurd H (by simp)
      · rw [if_neg c3] at H
        have c3b0 : decide (x5_1 < (x0_1.length : Int)) = false := decide_eq_false c3
        clear c3
        simp only [Option.some.injEq, Prod.mk.injEq] at H
        obtain ⟨rfl, rfl⟩ := H
        obtain ⟨Ao9, co9, eo9⟩ := Kd.R_slice HO_0.out
        subst eo9
        go_wp2
        go_ret
        exact ⟨by first | rfl | (simp [errW_none, errW_some] <;> rfl) | (simp [*, errW_none, errW_some] <;> rfl), by (with_reducible repeat (first | apply Kd.R_alloc | apply Kd.R_drewN | apply Kd.R_drew)); exact HO_0.out, by repeat (first | (with_reducible first | exact HB.out | apply below_alloc | apply pw_below_drewN | apply below_drew1) | exact HB.out), by repeat (first | (with_reducible first | exact HK.out | apply Kept.alloc | apply Kept.drewN | apply Kept.drew) | exact HK.out)⟩

/-! ### laws_markIntSS: function 22 -/
def laws_markIntSS.g : List (List Int) → Int → Option (Int × List (List Int))
  | [], a => some (a, [])
  | x :: l, a => (laws_markIntS.f (x.length + 1) x a).bind fun p => (laws_markIntSS.g l p.1).bind fun q => some (q.1, p.2 :: q.2)
theorem laws_markIntSS.len : ∀ (l : List (List Int)) (a r : Int) (s : List (List Int)), laws_markIntSS.g l a = some (r, s) → s.length = l.length
  | [], a, r, s, h => by
    simp only [laws_markIntSS.g, Option.some.injEq, Prod.mk.injEq] at h
    rw [← h.2]
  | x :: l, a, r, s, h => by
    rw [laws_markIntSS.g] at h
    obtain ⟨p, _, h⟩ := Option.bind_eq_some_iff.mp h
    obtain ⟨q, h2, h⟩ := Option.bind_eq_some_iff.mp h
    simp only [Option.some.injEq, Prod.mk.injEq] at h
    rw [← h.2, List.length_cons, List.length_cons, laws_markIntSS.len l p.1 q.1 q.2 h2]
set_option maxHeartbeats 4000000 in
set_option maxRecDepth 100000 in
theorem laws_markIntSS.marks (P0_ : Nat → Prop) (u : Value) (l0 : List (List Int)) (a1 : Int) (r1 : Int) (r2 : List (List Int)) (w0 w : World) (hB : Below w0.heap.size w0 w) (ho0 : Kd.S (Kd.slice 3 (Kd.int .i64)) 22 w w0.heap.size P0_ u l0) (h : laws_markIntSS.g l0 a1 = some (r1, r2)) :
    Calls Try.prog 22 #[u, .int .i64 a1] w fun e w' => e = .returned (.int .i64 r1) ∧ Kd.S (Kd.slice 3 (Kd.int .i64)) 22 w' w0.heap.size P0_ u r2 ∧ Below w0.heap.size w0 w' ∧ Kept w w' P0_ := by
  obtain ⟨A0, c0, rfl, hc0, hC⟩ := Kd.S_reads ho0
  have HM := Aside0.mk (show l0.length ≤ 9223372036854775807 by have := Kd.C_max hC; unfold maxLen at this; omega)
  clear hC hc0
  have HS := Aside0.mk ho0
  have HB := Aside0.mk hB
  have H := Aside0.mk h
  have HK := Aside0.mk (Kept.refl w P0_)
  have HL := Aside0.mk (laws_markIntSS.len _ _ _ _ h)
  clear ho0 hB h
  generalize hn : l0.length = n at *
  have HN := Aside0.mk hn
  clear hn
  go_enter Try.func22, Try.ntmps22
  go_wp2
  go_loopg [1, 5] n (fun gk v1 v5 w' => ∃ (done todo rest : List (List Int)) (x1 : Int), v1 = .int .i64 x1 ∧ v5 = .int .i64 (done.length : Int) ∧ Aside0 (laws_markIntSS.g todo x1 = some (r1, rest)) ∧ Aside0 (r2 = done ++ rest ∧ done.length + todo.length = n ∧ todo.length ≤ gk) ∧ Aside0 (Kd.S (Kd.slice 3 (Kd.int .i64)) 22 w' w0.heap.size P0_ (.slice A0 n c0) (done ++ todo)) ∧ Aside0 (Below w0.heap.size w0 w') ∧ Aside0 (Kept w w' P0_))
  case atStart => exact ⟨[], l0, r2, a1, rfl, rfl, H, ⟨rfl, by simpa using HN.out, by rw [HN.out]; exact Nat.le_refl _⟩, HS, HB, HK⟩
  case round =>
    clear H HS HB HK
    obtain ⟨done, todo, rest, x1, rfl, rfl, H, HI, HS, HB, HK⟩ := hrel
    cases todo with
    | nil =>
      have hh := H.out
      simp only [laws_markIntSS.g, Option.some.injEq, Prod.mk.injEq] at hh
      obtain ⟨rfl, rfl⟩ := hh
      have e1 : decide ((done.length : Int) < (n : Int)) = false := decide_eq_false (by have := HI.out.2.1; simp at this; omega)
      have HR := Aside0.mk (show r2 = done from by have := HI.out.1; simpa using this)
      have e2 : ((done.length : Int) < (n : Int)) = False := eq_false (by have := HI.out.2.1; simp at this; omega)
      go_wp2
      go_ret
      refine ⟨rfl, ?_, HB.out, HK.out⟩
      rw [HR.out]
      simpa using HS.out
    | cons x todo =>
      have hh := H.out
      rw [laws_markIntSS.g] at hh
      obtain ⟨p, h1, hh⟩ := Option.bind_eq_some_iff.mp hh
      obtain ⟨q, h2, hh⟩ := Option.bind_eq_some_iff.mp hh
      simp only [Option.some.injEq, Prod.mk.injEq] at hh
      obtain ⟨e1, e2⟩ := hh
      have hlen : done.length + (todo.length + 1) = n := HI.out.2.1
      obtain ⟨g, cap, eq, _, _, _⟩ := Kd.S_form HS.out (by rw [List.length_append, List.length_cons]; omega)
      have eA : A0 = some ⟨g, 0, none⟩ := by injection eq
      subst eA
      clear eq cap
      obtain ⟨oki, ce, hcl, hM, hcc, hfr, hoki, hH⟩ := Kd.S_elem HS.out [] (done.length : Int) (by omega) (by omega)
      have hx : (done ++ x :: todo).getD (done.length : Int).toNat [] = x := by simp
      rw [hx] at hM
      obtain ⟨v, rfl, hR⟩ := hM
      obtain ⟨Ax, cx, rfl⟩ := Kd.R_slice hR
      have k0 := hcc 0 _ rfl
      have sz : ((Kd.slice 3 (Kd.int .i64))).sz = 1 := rfl
      rw [sz, Nat.mul_one, Nat.add_zero, Int.toNat_natCast] at k0
      have k1 : wr.cell? ((⟨g, 0, none⟩ : Addr).add done.length) = some (.slice Ax x.length cx) := by
        rw [show ((⟨g, 0, none⟩ : Addr).add done.length) = ⟨g, done.length, none⟩ from by simp only [add_plain, Nat.zero_add]]
        exact k0
      have HH := Aside0.mk hH
      have HR := Aside0.mk hR
      have HO := Aside0.mk hoki
      have H1 := Aside0.mk h1
      have H2 := Aside0.mk h2
      have E1 := Aside0.mk e1
      have E2 := Aside0.mk e2
      have HLEN := Aside0.mk hlen
      clear hcl hcc hfr hoki hH hR h1 h2 e1 e2 hx sz hlen
      have d1 : decide ((done.length : Int) < (n : Int)) = true := decide_eq_true (by have := HLEN.out; omega)
      have d2 : ((done.length : Int) < (n : Int)) = True := eq_true (by have := HLEN.out; omega)
      have d3 : (0 ≤ (done.length : Int)) = True := eq_true (by omega)
      have d4 : decide (0 ≤ (done.length : Int)) = true := decide_eq_true (by omega)
      have HC := Aside0.mk (fun W hb hR => laws_markIntS.calls (x.length + 1) oki (.slice Ax x.length cx) x x1 p.1 p.2 w0 W hb hR H1.out)
      clear H1
      go_wp2_with (go_at_call 21; refine (HC.out _ (by first | exact HB.out | (repeat (first | exact HB.out | apply pw_below_drewN | apply below_drew1))) (by (with_reducible repeat (first | apply Kd.R_drewN | apply Kd.R_drew)); exact HR.out)).mono ?_; rintro e w2 ⟨rfl, hR2, hB2, hK2⟩; have HR2 := Aside0.mk hR2; have HB2 := Aside0.mk hB2; have HK2 := Aside0.mk hK2; clear hR2 hB2 hK2)
      go_roundg todo.length
      case measure => have := HI.out.2.2; simp at this; omega
      case rel =>
        have hR3 : Kd.R (Kd.int .i64) 3 w2 w0.heap.size oki (.slice Ax x.length cx) p.2 := Kd.R_mono (Kd.R_tight rfl HR2.out) (fun k hk => HR.out.1 k hk.symm)
        have hS := Kd.H_back (Kd.H_step HH.out (fun k hk hn hlt => HK2.out.2 k hlt hn)) (okp := oki) ⟨_, rfl, hR3⟩ (fun _ hk => hk)
        refine ⟨done ++ [p.2], todo, q.2, p.1, rfl, ?_, ⟨?_⟩, ⟨?_, by rw [List.length_append, List.length_singleton]; have := HLEN.out; omega, Nat.le_refl _⟩, ⟨?_⟩, HB2, ⟨HK.out.then_ HK2.out (fun k hk => Or.inl (HO.out k hk).1)⟩⟩
        · first | rfl | (congr 1; have := HM.out; have := HLEN.out; rw [List.length_append, List.length_singleton]; unfold wrap64; omega)
        · rw [H2.out, ← E1.out]
        · rw [HI.out.1, ← E2.out]
          simp
        · have e : (done ++ x :: todo).set (done.length : Int).toNat p.2 = done ++ [p.2] ++ todo := by simp
          rw [e] at hS
          exact hS

/-! ### laws_heldIntS: function 43 -/
def laws_heldIntS.l0 : Nat → List Int → Int → Int → Option (Int)
  | 0, _, _, _ => none
  | k + 1, x0, x1, x5 => if x5 < (x0.length : Int) then (if 0 ≤ x5 then (if (rd x0 x5) = x1 then (laws_heldIntS.l0 k x0 (wrap64 (x1 + 1)) (wrap64 (x5 + 1))) else (some (-1))) else (none)) else (some x1)
def laws_heldIntS.f (k : Nat) (l0 : List Int) (a1 : Int) : Option (Int) := laws_heldIntS.l0 k l0 a1 0
theorem laws_heldIntS.mono_l : ∀ k, (∀ y0 y1 y2, LeO (laws_heldIntS.l0 k y0 y1 y2) (laws_heldIntS.l0 (k + 1) y0 y1 y2))
  | 0 => fun _ _ _ r h => by simp [laws_heldIntS.l0] at h
  | k + 1 => by
    have ih0 := laws_heldIntS.mono_l k
    · intro y0 y1 y2
      unfold laws_heldIntS.l0
      repeat' first
      | (with_reducible exact ih0 _ _ _)
      | (with_reducible exact LeO.refl _)
      | (with_reducible exact LeO.none _)
      | (with_reducible refine LeO.ite ?_ ?_)
      | (with_reducible refine LeO.bind ?_ (fun _ => ?_))
      | exact ih0 _ _ _
      | exact LeO.none _
      | refine LeO.ite ?_ ?_
      | refine LeO.bind ?_ (fun _ => ?_)
theorem laws_heldIntS.mono : ∀ a0 a1 k, LeO (laws_heldIntS.f k a0 a1) (laws_heldIntS.f (k + 1) a0 a1) := by
  intro a0 a1 k
  have ih0 := laws_heldIntS.mono_l k
  unfold laws_heldIntS.f
  repeat' first
      | (with_reducible exact ih0 _ _ _)
      | (with_reducible exact LeO.refl _)
      | (with_reducible exact LeO.none _)
      | (with_reducible refine LeO.ite ?_ ?_)
      | (with_reducible refine LeO.bind ?_ (fun _ => ?_))
      | exact ih0 _ _ _
      | exact LeO.none _
      | refine LeO.ite ?_ ?_
      | refine LeO.bind ?_ (fun _ => ?_)
set_option maxHeartbeats 8000000 in
set_option maxRecDepth 100000 in
theorem laws_heldIntS.calls (k : Nat) (A0 : Option Addr) (c0 : Nat) (l0 : List Int) (a1 : Int) (r : Int) (w : World) (hr0 : Kd.C (Kd.int .i64) w A0 l0.length l0) (hc0 : l0.length ≤ c0) (h : laws_heldIntS.f k l0 a1 = some r) :
    Calls Try.prog 43 #[.slice A0 l0.length c0, .int .i64 a1] w fun e w' => e = .returned (.int .i64 r) ∧ Drawn0 w w' := by
  have HR0 := Aside0.mk hr0
  have HC0 := Aside0.mk hc0
  clear hr0 hc0
  have H : (laws_heldIntS.l0 k l0 a1 0) = some r := h
  clear h
  have H' := Aside0.mk H
  clear H
  go_enter Try.func43, Try.ntmps43
  go_wp2
  go_loopg [1, 5] k (fun kq v1 v5 w' => ∃ (x1_1 : Int) (x5_1 : Int), v1 = .int .i64 x1_1 ∧ v5 = .int .i64 x5_1 ∧ Aside0 (laws_heldIntS.l0 kq l0 x1_1 x5_1 = some r) ∧ Aside0 (kq ≤ k) ∧ Drawn0 w w')
  case atStart => exact ⟨(a1), (0), (by first | rfl | (simp; done) | (simp [*]; done)), (by first | rfl | (simp; done) | (simp [*]; done)), H', ⟨Nat.le_refl _⟩, by repeat (first | exact Drawn0.refl _ | apply Drawn0.step)⟩
  case round =>
    clear H'
    try clear p2
    obtain ⟨x1_1, x5_1, rfl, rfl, HA, HK1, ⟨m1, rfl⟩⟩ := hrel
    cases gk with
    | zero => exact absurd HA.out (by simp [laws_heldIntS.l0])
    | succ k1 =>
      have H := HA.out
      clear HA
      simp only [laws_heldIntS.l0] at H
      by_cases c3 : x5_1 < (l0.length : Int)
      · rw [if_pos c3] at H
        have c3b0 : decide (x5_1 < (l0.length : Int)) = true := decide_eq_true c3
        clear c3
        by_cases c4 : 0 ≤ x5_1
        · rw [if_pos c4] at H
          have c4b0 : decide (0 ≤ x5_1) = true := decide_eq_true c4
          clear c4
          by_cases c5 : (rd l0 x5_1) = x1_1
          · rw [if_pos c5] at H
            have c5b0 : ((rd l0 x5_1) == x1_1) = true := beq_iff_eq.mpr c5
            have c5b1 : ((rd l0 x5_1) != x1_1) = false := bne_eq_false_iff_eq.mpr c5
            clear c5
            have H' := Aside0.mk H
            clear H
            have p188 : 0 ≤ (x5_1 : Int) := of_decide_eq_true (by first | (with_reducible assumption) | assumption)
            have q188 : x5_1 < (l0.length : Int) := of_decide_eq_true (by first | (with_reducible assumption) | assumption)
            obtain ⟨ad188, e188, hx188_0⟩ := Kd.at_int HR0.out x5_1 p188 q188
            cases e188
            replace p188 := eq_true p188
            replace q188 := eq_true q188
            go_wp2
            go_roundg k1
            case measure => have := HK1.out; omega
            case rel => exact ⟨(wrap64 (x1_1 + 1)), (wrap64 (x5_1 + 1)), (by first | rfl | (simp; done) | (simp [*]; done)), (by first | rfl | (simp; done) | (simp [*]; done)), H', ⟨by have := HK1.out; omega⟩, by repeat (first | exact Drawn0.refl _ | apply Drawn0.step)⟩
          · rw [if_neg c5] at H
            have c5b0 : ((rd l0 x5_1) == x1_1) = false := beq_eq_false_iff_ne.mpr c5
            have c5b1 : ((rd l0 x5_1) != x1_1) = true := bne_iff_ne.mpr c5
            obtain rfl := Option.some.inj H
            have p188 : 0 ≤ (x5_1 : Int) := of_decide_eq_true (by first | (with_reducible assumption) | assumption)
            have q188 : x5_1 < (l0.length : Int) := of_decide_eq_true (by first | (with_reducible assumption) | assumption)
            obtain ⟨ad188, e188, hx188_0⟩ := Kd.at_int HR0.out x5_1 p188 q188
            cases e188
            replace p188 := eq_true p188
            replace q188 := eq_true q188
            go_wp2
            go_ret
            exact ⟨by first | rfl | (simp; done) | (simp [*]; done), by repeat (first | exact Drawn0.refl _ | apply Drawn0.step)⟩
        · rw [if_neg c4] at H
          exact absurd H (by simp)
      · rw [if_neg c3] at H
        have c3b0 : decide (x5_1 < (l0.length : Int)) = false := decide_eq_false c3
        clear c3
        obtain rfl := Option.some.inj H
        go_wp2
        go_ret
        exact ⟨by first | rfl | (simp; done) | (simp [*]; done), by repeat (first | exact Drawn0.refl _ | apply Drawn0.step)⟩

/-! ### laws_heldIntSS: function 23 -/
def laws_heldIntSS.l0 : Nat → List (List Int) → Int → Int → Option (Int)
  | 0, _, _, _ => none
  | k + 1, x0, x1, x5 => if x5 < (x0.length : Int) then (if 0 ≤ x5 then ((laws_heldIntS.f k (rd_L1 x0 x5) x1).bind fun t190 => (if t190 < 0 then (some (-1)) else (laws_heldIntSS.l0 k x0 t190 (wrap64 (x5 + 1))))) else (none)) else (some x1)
def laws_heldIntSS.f (k : Nat) (l0 : List (List Int)) (a1 : Int) : Option (Int) := laws_heldIntSS.l0 k l0 a1 0
theorem laws_heldIntSS.mono_l : ∀ k, (∀ y0 y1 y2, LeO (laws_heldIntSS.l0 k y0 y1 y2) (laws_heldIntSS.l0 (k + 1) y0 y1 y2))
  | 0 => fun _ _ _ r h => by simp [laws_heldIntSS.l0] at h
  | k + 1 => by
    have ih0 := laws_heldIntSS.mono_l k
    · intro y0 y1 y2
      unfold laws_heldIntSS.l0
      repeat' first
      | (with_reducible exact ih0 _ _ _)
      | (with_reducible exact laws_heldIntS.mono _ _ _)
      | (with_reducible exact LeO.refl _)
      | (with_reducible exact LeO.none _)
      | (with_reducible refine LeO.ite ?_ ?_)
      | (with_reducible refine LeO.bind ?_ (fun _ => ?_))
      | exact ih0 _ _ _
      | exact laws_heldIntS.mono _ _ _
      | exact LeO.none _
      | refine LeO.ite ?_ ?_
      | refine LeO.bind ?_ (fun _ => ?_)
theorem laws_heldIntSS.mono : ∀ a0 a1 k, LeO (laws_heldIntSS.f k a0 a1) (laws_heldIntSS.f (k + 1) a0 a1) := by
  intro a0 a1 k
  have ih0 := laws_heldIntSS.mono_l k
  unfold laws_heldIntSS.f
  repeat' first
      | (with_reducible exact ih0 _ _ _)
      | (with_reducible exact laws_heldIntS.mono _ _ _)
      | (with_reducible exact LeO.refl _)
      | (with_reducible exact LeO.none _)
      | (with_reducible refine LeO.ite ?_ ?_)
      | (with_reducible refine LeO.bind ?_ (fun _ => ?_))
      | exact ih0 _ _ _
      | exact laws_heldIntS.mono _ _ _
      | exact LeO.none _
      | refine LeO.ite ?_ ?_
      | refine LeO.bind ?_ (fun _ => ?_)
set_option maxHeartbeats 8000000 in
set_option maxRecDepth 100000 in
theorem laws_heldIntSS.calls (k : Nat) (A0 : Option Addr) (c0 : Nat) (l0 : List (List Int)) (a1 : Int) (r : Int) (w : World) (hr0 : Kd.C (Kd.slice 3 (Kd.int .i64)) w A0 l0.length l0) (hc0 : l0.length ≤ c0) (h : laws_heldIntSS.f k l0 a1 = some r) :
    Calls Try.prog 23 #[.slice A0 l0.length c0, .int .i64 a1] w fun e w' => e = .returned (.int .i64 r) ∧ Drawn0 w w' := by
  have HR0 := Aside0.mk hr0
  have HC0 := Aside0.mk hc0
  clear hr0 hc0
  have H : (laws_heldIntSS.l0 k l0 a1 0) = some r := h
  clear h
  have H' := Aside0.mk H
  clear H
  go_enter Try.func23, Try.ntmps23
  go_wp2
  go_loopg [1, 5] k (fun kq v1 v5 w' => ∃ (x1_1 : Int) (x5_1 : Int), v1 = .int .i64 x1_1 ∧ v5 = .int .i64 x5_1 ∧ Aside0 (laws_heldIntSS.l0 kq l0 x1_1 x5_1 = some r) ∧ Aside0 (kq ≤ k) ∧ Drawn0 w w')
  case atStart => exact ⟨(a1), (0), (by first | rfl | (simp; done) | (simp [*]; done)), (by first | rfl | (simp; done) | (simp [*]; done)), H', ⟨Nat.le_refl _⟩, by repeat (first | exact Drawn0.refl _ | apply Drawn0.step)⟩
  case round =>
    clear H'
    try clear c2
    try clear p2
    obtain ⟨x1_1, x5_1, rfl, rfl, HA, HK1, ⟨m1, rfl⟩⟩ := hrel
    cases gk with
    | zero => exact absurd HA.out (by simp [laws_heldIntSS.l0])
    | succ k1 =>
      have H := HA.out
      clear HA
      simp only [laws_heldIntSS.l0] at H
      by_cases c3 : x5_1 < (l0.length : Int)
      · rw [if_pos c3] at H
        have c3b0 : decide (x5_1 < (l0.length : Int)) = true := decide_eq_true c3
        clear c3
        by_cases c4 : 0 ≤ x5_1
        · rw [if_pos c4] at H
          have c4b0 : decide (0 ≤ x5_1) = true := decide_eq_true c4
          clear c4
          replace H := Option.bind_eq_some_iff.mp H
          obtain ⟨t190, A50, H⟩ := H
          replace H : (if t190 < 0 then (some (-1)) else (laws_heldIntSS.l0 k1 l0 t190 (wrap64 (x5_1 + 1)))) = some r := H
          have A5 := Aside0.mk A50
          clear A50
          by_cases c6 : t190 < 0
          · rw [if_pos c6] at H
            have c6b0 : decide (t190 < 0) = true := decide_eq_true c6
            clear c6
            obtain rfl := Option.some.inj H
            have p189 : 0 ≤ (x5_1 : Int) := of_decide_eq_true (by first | (with_reducible assumption) | assumption)
            have q189 : x5_1 < (l0.length : Int) := of_decide_eq_true (by first | (with_reducible assumption) | assumption)
            obtain ⟨ad189, A189_0, c189_0, e189, hx189_0, hl189_0, hi189_0⟩ := at_L1 HR0.out x5_1 p189 q189
            cases e189
            have HR189_0 := Aside0.mk hi189_0
            have HC189_0 := Aside0.mk hl189_0
            clear hi189_0 hl189_0
            replace p189 := eq_true p189
            replace q189 := eq_true q189
            go_wp2_with (first | ((with_reducible refine gate_callee (f := 43) rfl ?_); refine goesL_ (some 17) rfl rfl Try.func43 (by kernel_rfl) rfl #[.slice A189_0 (rd_L1 l0 x5_1).length c189_0, .int .i64 x1_1] rfl (by (try simp only [List.map_toArray, List.map_cons, List.map_nil]); first | done | rfl | (simp only [List.length_drop, List.length_take]; rfl)) ?_; (with_reducible refine (laws_heldIntS.calls k1 _ _ (rd_L1 l0 x5_1) x1_1 t190 _ ?side1 ?side2 A5.out).mono ?_); (case side1 => repeat (first | exact HR189_0.out | (with_reducible refine Kd.C_alloc ?_ _) | (with_reducible refine Kd.C_drewN ?_ _) | (with_reducible refine Kd.C_drew ?_))); (case side2 => exact HC189_0.out); rintro e w' ⟨rfl, ⟨nd, rfl⟩⟩; refine ⟨_, rfl, ?_⟩))
            go_ret
            exact ⟨by first | rfl | (simp; done) | (simp [*]; done), by repeat (first | exact Drawn0.refl _ | apply Drawn0.step)⟩
          · rw [if_neg c6] at H
            have c6b0 : decide (t190 < 0) = false := decide_eq_false c6
            clear c6
            have H' := Aside0.mk H
            clear H
            have p189 : 0 ≤ (x5_1 : Int) := of_decide_eq_true (by first | (with_reducible assumption) | assumption)
            have q189 : x5_1 < (l0.length : Int) := of_decide_eq_true (by first | (with_reducible assumption) | assumption)
            obtain ⟨ad189, A189_0, c189_0, e189, hx189_0, hl189_0, hi189_0⟩ := at_L1 HR0.out x5_1 p189 q189
            cases e189
            have HR189_0 := Aside0.mk hi189_0
            have HC189_0 := Aside0.mk hl189_0
            clear hi189_0 hl189_0
            replace p189 := eq_true p189
            replace q189 := eq_true q189
            go_wp2_with (first | ((with_reducible refine gate_callee (f := 43) rfl ?_); refine goesL_ (some 17) rfl rfl Try.func43 (by kernel_rfl) rfl #[.slice A189_0 (rd_L1 l0 x5_1).length c189_0, .int .i64 x1_1] rfl (by (try simp only [List.map_toArray, List.map_cons, List.map_nil]); first | done | rfl | (simp only [List.length_drop, List.length_take]; rfl)) ?_; (with_reducible refine (laws_heldIntS.calls k1 _ _ (rd_L1 l0 x5_1) x1_1 t190 _ ?side1 ?side2 A5.out).mono ?_); (case side1 => repeat (first | exact HR189_0.out | (with_reducible refine Kd.C_alloc ?_ _) | (with_reducible refine Kd.C_drewN ?_ _) | (with_reducible refine Kd.C_drew ?_))); (case side2 => exact HC189_0.out); rintro e w' ⟨rfl, ⟨nd, rfl⟩⟩; refine ⟨_, rfl, ?_⟩))
            go_roundg k1
            case measure => have := HK1.out; omega
            case rel => exact ⟨(t190), (wrap64 (x5_1 + 1)), (by first | rfl | (simp; done) | (simp [*]; done)), (by first | rfl | (simp; done) | (simp [*]; done)), H', ⟨by have := HK1.out; omega⟩, by repeat (first | exact Drawn0.refl _ | apply Drawn0.step)⟩
        · rw [if_neg c4] at H
          exact absurd H (by simp)
      · rw [if_neg c3] at H
        have c3b0 : decide (x5_1 < (l0.length : Int)) = false := decide_eq_false c3
        clear c3
        obtain rfl := Option.some.inj H
        go_wp2
        go_ret
        exact ⟨by first | rfl | (simp; done) | (simp [*]; done), by repeat (first | exact Drawn0.refl _ | apply Drawn0.step)⟩

/-! ### laws_FnExactFirstFit: function 6 -/
def laws_FnExactFirstFit.f (k : Nat) (l0 : List Int) : Option (Bool) := if (l0.length : Int) > 1048576 then some true else ((laws_toIntS.f k l0).bind fun x8 => ((spec_FirstFit.f k x8).bind fun p => match p with | (x15, x16) => (if impl_FirstFit.f k x8 = some (x15, x16) then (if laws_eqIntSS.f k x15 x15 = some true then (if laws_eqIntS.f k x8 x8 = some true then ((laws_markIntS.f k x8 1).bind fun p => match p with | (t36, x37) => (if 0 ≤ t36 then ((laws_markIntSS.g x15 1).bind fun p => match p with | (t38, x39) => (if laws_heldIntSS.f k x39 1 = some t38 then (if 0 ≤ t38 then (some true) else none) else none)) else none)) else none) else none) else none)))
set_option maxHeartbeats 16000000 in
set_option maxRecDepth 100000 in
theorem laws_FnExactFirstFit.calls (k : Nat) (A0 : Option Addr) (c0 : Nat) (l0 : List Int) (r : Bool) (w : World) (hr0 : Kd.C (Kd.int .i64) w A0 l0.length l0) (hc0 : l0.length ≤ c0) (h : laws_FnExactFirstFit.f k l0 = some r) :
    Calls Try.prog 6 #[.slice A0 l0.length c0] w fun e w' => e = .returned (.bool r) ∧ Below w.heap.size w w' := by
  have HR0 := Aside0.mk hr0
  have HL0 := Aside0.mk hc0
  clear hr0 hc0
  unfold laws_FnExactFirstFit.f at h
  by_cases c53 : (l0.length : Int) > 1048576
  · rw [if_pos c53] at h
    obtain rfl := Option.some.inj h
    clear h
    have d1 : decide ((l0.length : Int) > 1048576) = true := decide_eq_true c53
    have d2 : decide (1048576 < (l0.length : Int)) = true := decide_eq_true c53
    clear c53
    go_enter Try.func6, Try.ntmps6
    have HB := Aside0.mk (Below.refl w.heap.size w)
    have HN := Aside0.mk (Nat.le_refl w.heap.size)
    go_wp2_with fail
    go_ret
    exact ⟨rfl, (by repeat (first | exact HB.out | apply pw_below_drewN | apply below_drew1))⟩
  rw [if_neg c53] at h
  have d54 : decide ((l0.length : Int) > 1048576) = false := decide_eq_false c53
  have d54b : decide (1048576 < (l0.length : Int)) = false := decide_eq_false c53
  clear c53
  replace h := Option.bind_eq_some_iff.mp h
  obtain ⟨x8, H550, h⟩ := h
  have H55 := Aside0.mk H550
  clear H550
  try dsimp only at h
  replace h := Option.bind_eq_some_iff.mp h
  obtain ⟨⟨x15, x16⟩, H560, h⟩ := h
  have H56 := Aside0.mk H560
  clear H560
  try dsimp only at h
  obtain ⟨H570, h⟩ := need_of h
  have H57 := Aside0.mk H570
  clear H570
  obtain ⟨H580, h⟩ := need_of h
  have H58 := Aside0.mk H580
  clear H580
  obtain ⟨H590, h⟩ := need_of h
  have H59 := Aside0.mk H590
  clear H590
  replace h := Option.bind_eq_some_iff.mp h
  obtain ⟨⟨t36, x37⟩, H600, h⟩ := h
  have H60 := Aside0.mk H600
  clear H600
  try dsimp only at h
  obtain ⟨H610, h⟩ := need_of h
  have H61 := Aside0.mk H610
  clear H610
  replace h := Option.bind_eq_some_iff.mp h
  obtain ⟨⟨t38, x39⟩, H620, h⟩ := h
  have H62 := Aside0.mk H620
  clear H620
  try dsimp only at h
  obtain ⟨H630, h⟩ := need_of h
  have H63 := Aside0.mk H630
  clear H630
  obtain ⟨H640, h⟩ := need_of h
  have H64 := Aside0.mk H640
  clear H640
  obtain rfl := Option.some.inj h
  clear h
  go_enter Try.func6, Try.ntmps6
  have HB := Aside0.mk (Below.refl w.heap.size w)
  have HN := Aside0.mk (Nat.le_refl w.heap.size)
  go_wp2_with fail
  go_at_call 11
  refine (laws_toIntS.calls k A0 c0 l0 x8 _ (Kd.C_below HR0.out (by repeat (first | exact HB.out | apply pw_below_drewN | apply below_drew1))) HL0.out H55.out).mono ?_
  rintro e w1 ⟨v4, rfl, hF5, hb⟩
  have HB2 := Aside0.mk (below_next (N := w.heap.size) (by repeat (first | exact HB.out | apply pw_below_drewN | apply below_drew1)) (by exact HN.out) (by omega) hb)
  obtain ⟨lo65, hi66, ho, hg⟩ := fresh_pts (N := w.heap.size) hb (by exact HN.out)
  have O67 := Aside0.mk (show w.heap.size ≤ lo65 ∧ lo65 ≤ hi66 from ⟨ho.1, ho.2.1⟩)
  have hF5b := R_in hF5 hg (B := w.heap.size) (by have := O67.out; omega)
  obtain ⟨A2, c3, rfl, hle, hC⟩ := Kd.R_reads hF5b
  have HC6 := Aside0.mk hC
  have HL7 := Aside0.mk hle
  clear hle hC
  have F5 := Aside0.mk (show Kd.R (Kd.int .i64) 3 w1 w.heap.size (fun k_ => (lo65 ≤ k_ ∧ k_ < hi66) ∧ True) (.slice A2 x8.length c3) x8 from hF5b)
  clear hF5 hF5b
  replace HN := Aside0.mk (show hi66 ≤ w1.heap.size from ho.2.2)
  clear ho hg
  replace HB := HB2
  clear HB2 hb
  go_wp2_with fail
  go_at_call 18
  refine (spec_FirstFit.calls k A2 c3 x8 x15 x16 _ (by (with_reducible repeat (first | apply Kd.C_drewN | apply Kd.C_drew)); exact HC6.out) HL7.out H56.out).mono ?_
  rintro e w2 ⟨v11, rfl, hF12, hb⟩
  have HB2 := Aside0.mk (below_next (N := hi66) (by repeat (first | exact HB.out | apply pw_below_drewN | apply below_drew1)) (by exact HN.out) (by have := O67.out; omega) hb)
  replace F5 := Aside0.mk (show Kd.R (Kd.int .i64) 3 w2 w.heap.size (fun k_ => (lo65 ≤ k_ ∧ k_ < hi66) ∧ True) (.slice A2 x8.length c3) x8 from Kd.R_below (by (with_reducible repeat (first | apply Kd.R_drewN | apply Kd.R_drew)); exact F5.out) hb)
  replace HC6 := Aside0.mk (show Kd.C (Kd.int .i64) w2 A2 x8.length x8 from Kd.C_below (by (with_reducible repeat (first | apply Kd.C_drewN | apply Kd.C_drew)); exact HC6.out) hb)
  obtain ⟨lo68, hi69, ho, hg⟩ := fresh_pts (N := hi66) hb (by exact HN.out)
  have O70 := Aside0.mk (show hi66 ≤ lo68 ∧ lo68 ≤ hi69 from ⟨ho.1, ho.2.1⟩)
  have hF12b := S_in hF12 hg (B := w.heap.size) (by have := O67.out; have := O70.out; omega)
  obtain ⟨A9, c10, rfl, hle, hC⟩ := Kd.S_reads hF12b
  have HC13 := Aside0.mk hC
  have HL14 := Aside0.mk hle
  clear hle hC
  have F12 := Aside0.mk (show Kd.S (Kd.slice 3 (Kd.int .i64)) 22 w2 w.heap.size (fun k_ => (lo68 ≤ k_ ∧ k_ < hi69) ∧ True) (.slice A9 x15.length c10) x15 from hF12b)
  clear hF12 hF12b
  replace HN := Aside0.mk (show hi69 ≤ w2.heap.size from ho.2.2)
  clear ho hg
  replace HB := HB2
  clear HB2 hb
  clear F5 HC6
  go_wp2_with fail
  go_at_call 11
  refine (laws_toIntS.calls k A0 c0 l0 x8 _ (Kd.C_below HR0.out (by repeat (first | exact HB.out | apply pw_below_drewN | apply below_drew1))) HL0.out H55.out).mono ?_
  rintro e w3 ⟨v19, rfl, hF20, hb⟩
  have HB2 := Aside0.mk (below_next (N := hi69) (by repeat (first | exact HB.out | apply pw_below_drewN | apply below_drew1)) (by exact HN.out) (by have := O67.out; have := O70.out; omega) hb)
  replace F12 := Aside0.mk (show Kd.S (Kd.slice 3 (Kd.int .i64)) 22 w3 w.heap.size (fun k_ => (lo68 ≤ k_ ∧ k_ < hi69) ∧ True) (.slice A9 x15.length c10) x15 from Kd.S_below (by (with_reducible repeat (first | apply Kd.S_drewN | apply Kd.S_drew)); exact F12.out) hb)
  replace HC13 := Aside0.mk (show Kd.C (Kd.slice 3 (Kd.int .i64)) w3 A9 x15.length x15 from Kd.C_below (by (with_reducible repeat (first | apply Kd.C_drewN | apply Kd.C_drew)); exact HC13.out) hb)
  obtain ⟨lo71, hi72, ho, hg⟩ := fresh_pts (N := hi69) hb (by exact HN.out)
  have O73 := Aside0.mk (show hi69 ≤ lo71 ∧ lo71 ≤ hi72 from ⟨ho.1, ho.2.1⟩)
  have hF20b := R_in hF20 hg (B := w.heap.size) (by have := O67.out; have := O70.out; have := O73.out; omega)
  obtain ⟨A17, c18, rfl, hle, hC⟩ := Kd.R_reads hF20b
  have HC21 := Aside0.mk hC
  have HL22 := Aside0.mk hle
  clear hle hC
  have F20 := Aside0.mk (show Kd.R (Kd.int .i64) 3 w3 w.heap.size (fun k_ => (lo71 ≤ k_ ∧ k_ < hi72) ∧ True) (.slice A17 x8.length c18) x8 from hF20b)
  clear hF20 hF20b
  replace HN := Aside0.mk (show hi72 ≤ w3.heap.size from ho.2.2)
  clear ho hg
  replace HB := HB2
  clear HB2 hb
  go_wp2_with fail
  go_at_call 19
  refine (impl_FirstFit.calls k A17 c18 x8 x15 x16 _ (by (with_reducible repeat (first | apply Kd.C_drewN | apply Kd.C_drew)); exact HC21.out) HL22.out H57.out).mono ?_
  rintro e w4 ⟨v25, rfl, hF26, hb⟩
  have HB2 := Aside0.mk (below_next (N := hi72) (by repeat (first | exact HB.out | apply pw_below_drewN | apply below_drew1)) (by exact HN.out) (by have := O67.out; have := O70.out; have := O73.out; omega) hb)
  replace F12 := Aside0.mk (show Kd.S (Kd.slice 3 (Kd.int .i64)) 22 w4 w.heap.size (fun k_ => (lo68 ≤ k_ ∧ k_ < hi69) ∧ True) (.slice A9 x15.length c10) x15 from Kd.S_below (by (with_reducible repeat (first | apply Kd.S_drewN | apply Kd.S_drew)); exact F12.out) hb)
  replace HC13 := Aside0.mk (show Kd.C (Kd.slice 3 (Kd.int .i64)) w4 A9 x15.length x15 from Kd.C_below (by (with_reducible repeat (first | apply Kd.C_drewN | apply Kd.C_drew)); exact HC13.out) hb)
  replace F20 := Aside0.mk (show Kd.R (Kd.int .i64) 3 w4 w.heap.size (fun k_ => (lo71 ≤ k_ ∧ k_ < hi72) ∧ True) (.slice A17 x8.length c18) x8 from Kd.R_below (by (with_reducible repeat (first | apply Kd.R_drewN | apply Kd.R_drew)); exact F20.out) hb)
  replace HC21 := Aside0.mk (show Kd.C (Kd.int .i64) w4 A17 x8.length x8 from Kd.C_below (by (with_reducible repeat (first | apply Kd.C_drewN | apply Kd.C_drew)); exact HC21.out) hb)
  obtain ⟨lo74, hi75, ho, hg⟩ := fresh_pts (N := hi72) hb (by exact HN.out)
  have O76 := Aside0.mk (show hi72 ≤ lo74 ∧ lo74 ≤ hi75 from ⟨ho.1, ho.2.1⟩)
  have hF26b := S_in hF26 hg (B := w.heap.size) (by have := O67.out; have := O70.out; have := O73.out; have := O76.out; omega)
  obtain ⟨A23, c24, rfl, hle, hC⟩ := Kd.S_reads hF26b
  have HC27 := Aside0.mk hC
  have HL28 := Aside0.mk hle
  clear hle hC
  have F26 := Aside0.mk (show Kd.S (Kd.slice 3 (Kd.int .i64)) 22 w4 w.heap.size (fun k_ => (lo74 ≤ k_ ∧ k_ < hi75) ∧ True) (.slice A23 x15.length c24) x15 from hF26b)
  clear hF26 hF26b
  replace HN := Aside0.mk (show hi75 ≤ w4.heap.size from ho.2.2)
  clear ho hg
  replace HB := HB2
  clear HB2 hb
  go_wp2_with fail
  go_at_call 20
  refine (laws_eqIntSS.calls k A23 c24 x15 A9 c10 x15 true _ (by (with_reducible repeat (first | apply Kd.C_drewN | apply Kd.C_drew)); exact HC27.out) HL28.out (by (with_reducible repeat (first | apply Kd.C_drewN | apply Kd.C_drew)); exact HC13.out) HL14.out H58.out).mono ?_
  rintro e w_77 ⟨rfl, ⟨nd78, rfl⟩⟩
  go_wp2_with fail
  go_at_call 11
  refine (laws_toIntS.calls k A0 c0 l0 x8 _ (Kd.C_below HR0.out (by repeat (first | exact HB.out | apply pw_below_drewN | apply below_drew1))) HL0.out H55.out).mono ?_
  rintro e w5 ⟨v32, rfl, hF33, hb⟩
  have HB2 := Aside0.mk (below_next (N := hi75) (by repeat (first | exact HB.out | apply pw_below_drewN | apply below_drew1)) (by exact HN.out) (by have := O67.out; have := O70.out; have := O73.out; have := O76.out; omega) hb)
  replace F12 := Aside0.mk (show Kd.S (Kd.slice 3 (Kd.int .i64)) 22 w5 w.heap.size (fun k_ => (lo68 ≤ k_ ∧ k_ < hi69) ∧ True) (.slice A9 x15.length c10) x15 from Kd.S_below (by (with_reducible repeat (first | apply Kd.S_drewN | apply Kd.S_drew)); exact F12.out) hb)
  replace HC13 := Aside0.mk (show Kd.C (Kd.slice 3 (Kd.int .i64)) w5 A9 x15.length x15 from Kd.C_below (by (with_reducible repeat (first | apply Kd.C_drewN | apply Kd.C_drew)); exact HC13.out) hb)
  replace F20 := Aside0.mk (show Kd.R (Kd.int .i64) 3 w5 w.heap.size (fun k_ => (lo71 ≤ k_ ∧ k_ < hi72) ∧ True) (.slice A17 x8.length c18) x8 from Kd.R_below (by (with_reducible repeat (first | apply Kd.R_drewN | apply Kd.R_drew)); exact F20.out) hb)
  replace HC21 := Aside0.mk (show Kd.C (Kd.int .i64) w5 A17 x8.length x8 from Kd.C_below (by (with_reducible repeat (first | apply Kd.C_drewN | apply Kd.C_drew)); exact HC21.out) hb)
  replace F26 := Aside0.mk (show Kd.S (Kd.slice 3 (Kd.int .i64)) 22 w5 w.heap.size (fun k_ => (lo74 ≤ k_ ∧ k_ < hi75) ∧ True) (.slice A23 x15.length c24) x15 from Kd.S_below (by (with_reducible repeat (first | apply Kd.S_drewN | apply Kd.S_drew)); exact F26.out) hb)
  replace HC27 := Aside0.mk (show Kd.C (Kd.slice 3 (Kd.int .i64)) w5 A23 x15.length x15 from Kd.C_below (by (with_reducible repeat (first | apply Kd.C_drewN | apply Kd.C_drew)); exact HC27.out) hb)
  obtain ⟨lo79, hi80, ho, hg⟩ := fresh_pts (N := hi75) hb (by exact HN.out)
  have O81 := Aside0.mk (show hi75 ≤ lo79 ∧ lo79 ≤ hi80 from ⟨ho.1, ho.2.1⟩)
  have hF33b := R_in hF33 hg (B := w.heap.size) (by have := O67.out; have := O70.out; have := O73.out; have := O76.out; have := O81.out; omega)
  obtain ⟨A30, c31, rfl, hle, hC⟩ := Kd.R_reads hF33b
  have HC34 := Aside0.mk hC
  have HL35 := Aside0.mk hle
  clear hle hC
  have F33 := Aside0.mk (show Kd.R (Kd.int .i64) 3 w5 w.heap.size (fun k_ => (lo79 ≤ k_ ∧ k_ < hi80) ∧ True) (.slice A30 x8.length c31) x8 from hF33b)
  clear hF33 hF33b
  replace HN := Aside0.mk (show hi80 ≤ w5.heap.size from ho.2.2)
  clear ho hg
  replace HB := HB2
  clear HB2 hb
  go_wp2_with fail
  go_at_call 13
  refine (laws_eqIntS.calls k A17 c18 x8 A30 c31 x8 true _ (by (with_reducible repeat (first | apply Kd.C_drewN | apply Kd.C_drew)); exact HC21.out) HL22.out (by (with_reducible repeat (first | apply Kd.C_drewN | apply Kd.C_drew)); exact HC34.out) HL35.out H59.out).mono ?_
  rintro e w_82 ⟨rfl, ⟨nd83, rfl⟩⟩
  clear F33 HC34
  go_wp2_with fail
  go_at_call 21
  refine (laws_markIntS.calls k (fun k_ => some k_ = (.slice A17 x8.length c18 : Value).ownBlock) (.slice A17 x8.length c18) x8 1 t36 x37 w _ (by repeat (first | exact HB.out | apply pw_below_drewN | apply below_drew1)) (Kd.R_tight rfl (by (with_reducible repeat (first | apply Kd.R_drewN | apply Kd.R_drew)); exact F20.out)) H60.out).mono ?_
  rintro e w6 ⟨rfl, hF0, hB2, hK⟩
  replace F12 := Aside0.mk (show Kd.S (Kd.slice 3 (Kd.int .i64)) 22 w6 w.heap.size (fun k_ => (lo68 ≤ k_ ∧ k_ < hi69) ∧ True) (.slice A9 x15.length c10) x15 from Kd.S_kept (S := (fun k_ => some k_ = (.slice A17 x8.length c18 : Value).ownBlock)) (by (with_reducible repeat (first | apply Kd.S_drewN | apply Kd.S_drew)); exact F12.out) hK (fun k_ h1_ h2_ => (fun e_ => by have h3_ := h1_.1; have h4_ := (F20.out.1 k_ e_.symm).1; have := O67.out; have := O70.out; have := O73.out; have := O76.out; have := O81.out; omega) h2_))
  replace HC13 := Aside0.mk (show Kd.C (Kd.slice 3 (Kd.int .i64)) w6 A9 x15.length x15 from (Kd.S_reads' F12.out).2.2)
  replace F26 := Aside0.mk (show Kd.S (Kd.slice 3 (Kd.int .i64)) 22 w6 w.heap.size (fun k_ => (lo74 ≤ k_ ∧ k_ < hi75) ∧ True) (.slice A23 x15.length c24) x15 from Kd.S_kept (S := (fun k_ => some k_ = (.slice A17 x8.length c18 : Value).ownBlock)) (by (with_reducible repeat (first | apply Kd.S_drewN | apply Kd.S_drew)); exact F26.out) hK (fun k_ h1_ h2_ => (fun e_ => by have h3_ := h1_.1; have h4_ := (F20.out.1 k_ e_.symm).1; have := O67.out; have := O70.out; have := O73.out; have := O76.out; have := O81.out; omega) h2_))
  replace HC27 := Aside0.mk (show Kd.C (Kd.slice 3 (Kd.int .i64)) w6 A23 x15.length x15 from (Kd.S_reads' F26.out).2.2)
  clear F20 HC21
  replace HN := Aside0.mk (show hi80 ≤ w6.heap.size from Nat.le_trans HN.out hK.1)
  replace HB := Aside0.mk hB2
  clear hB2 hK hF0
  have d85 : decide (t36 < 0) = false := decide_eq_false (by have := H61.out; omega)
  go_wp2_with fail
  go_at_call 20
  refine (laws_eqIntSS.calls k A23 c24 x15 A9 c10 x15 true _ (by (with_reducible repeat (first | apply Kd.C_drewN | apply Kd.C_drew)); exact HC27.out) HL28.out (by (with_reducible repeat (first | apply Kd.C_drewN | apply Kd.C_drew)); exact HC13.out) HL14.out H58.out).mono ?_
  rintro e w_86 ⟨rfl, ⟨nd87, rfl⟩⟩
  go_wp2_with fail
  go_at_call 22
  refine (laws_markIntSS.marks (fun k_ => (lo74 ≤ k_ ∧ k_ < hi75) ∧ True) (.slice A23 x15.length c24) x15 1 t38 x39 w _ (by repeat (first | exact HB.out | apply pw_below_drewN | apply below_drew1)) (by (with_reducible repeat (first | apply Kd.S_drewN | apply Kd.S_drew)); exact F26.out) H62.out).mono ?_
  rintro e w7 ⟨rfl, hF0, hB2, hK⟩
  replace F12 := Aside0.mk (show Kd.S (Kd.slice 3 (Kd.int .i64)) 22 w7 w.heap.size (fun k_ => (lo68 ≤ k_ ∧ k_ < hi69) ∧ True) (.slice A9 x15.length c10) x15 from Kd.S_kept (S := (fun k_ => (lo74 ≤ k_ ∧ k_ < hi75) ∧ True)) (by (with_reducible repeat (first | apply Kd.S_drewN | apply Kd.S_drew)); exact F12.out) hK (fun k_ h1_ h2_ => by have h3_ := h1_.1; have h4_ := h2_.1; have := O67.out; have := O70.out; have := O73.out; have := O76.out; have := O81.out; omega))
  replace HC13 := Aside0.mk (show Kd.C (Kd.slice 3 (Kd.int .i64)) w7 A9 x15.length x15 from (Kd.S_reads' F12.out).2.2)
  replace F26 := Aside0.mk (show Kd.S (Kd.slice 3 (Kd.int .i64)) 22 w7 w.heap.size (fun k_ => (lo74 ≤ k_ ∧ k_ < hi75) ∧ True) (.slice A23 x15.length c24) x39 from hF0)
  replace HC27 := Aside0.mk (show Kd.C (Kd.slice 3 (Kd.int .i64)) w7 A23 x39.length x39 from (Kd.S_reads' F26.out).2.2)
  have HQ88 := Aside0.mk (show x15.length = x39.length from (Kd.S_reads' F26.out).1)
  replace HL28 := Aside0.mk (show x39.length ≤ c24 from by rw [← HQ88.out]; exact HL28.out)
  replace HN := Aside0.mk (show hi80 ≤ w7.heap.size from Nat.le_trans HN.out hK.1)
  replace HB := Aside0.mk hB2
  clear hB2 hK hF0
  go_wp2_with fail
  go_at_call 23
  refine calls_of_args (args' := #[.slice A23 x39.length c24, .int .i64 1]) (by rw [HQ88.out]) ?_
  refine (laws_heldIntSS.calls k A23 c24 x39 1 t38 _ (by (with_reducible repeat (first | apply Kd.C_drewN | apply Kd.C_drew)); exact HC27.out) HL28.out H63.out).mono ?_
  rintro e w_89 ⟨rfl, ⟨nd90, rfl⟩⟩
  have d91 : decide (t38 < 0) = false := decide_eq_false (by have := H64.out; omega)
  go_wp2_with fail
  go_at_call 11
  refine (laws_toIntS.calls k A0 c0 l0 x8 _ (Kd.C_below HR0.out (by repeat (first | exact HB.out | apply pw_below_drewN | apply below_drew1))) HL0.out H55.out).mono ?_
  rintro e w8 ⟨v43, rfl, hF44, hb⟩
  have HB2 := Aside0.mk (below_next (N := hi80) (by repeat (first | exact HB.out | apply pw_below_drewN | apply below_drew1)) (by exact HN.out) (by have := O67.out; have := O70.out; have := O73.out; have := O76.out; have := O81.out; omega) hb)
  replace F12 := Aside0.mk (show Kd.S (Kd.slice 3 (Kd.int .i64)) 22 w8 w.heap.size (fun k_ => (lo68 ≤ k_ ∧ k_ < hi69) ∧ True) (.slice A9 x15.length c10) x15 from Kd.S_below (by (with_reducible repeat (first | apply Kd.S_drewN | apply Kd.S_drew)); exact F12.out) hb)
  replace HC13 := Aside0.mk (show Kd.C (Kd.slice 3 (Kd.int .i64)) w8 A9 x15.length x15 from Kd.C_below (by (with_reducible repeat (first | apply Kd.C_drewN | apply Kd.C_drew)); exact HC13.out) hb)
  replace F26 := Aside0.mk (show Kd.S (Kd.slice 3 (Kd.int .i64)) 22 w8 w.heap.size (fun k_ => (lo74 ≤ k_ ∧ k_ < hi75) ∧ True) (.slice A23 x15.length c24) x39 from Kd.S_below (by (with_reducible repeat (first | apply Kd.S_drewN | apply Kd.S_drew)); exact F26.out) hb)
  replace HC27 := Aside0.mk (show Kd.C (Kd.slice 3 (Kd.int .i64)) w8 A23 x39.length x39 from Kd.C_below (by (with_reducible repeat (first | apply Kd.C_drewN | apply Kd.C_drew)); exact HC27.out) hb)
  obtain ⟨lo92, hi93, ho, hg⟩ := fresh_pts (N := hi80) hb (by exact HN.out)
  have O94 := Aside0.mk (show hi80 ≤ lo92 ∧ lo92 ≤ hi93 from ⟨ho.1, ho.2.1⟩)
  have hF44b := R_in hF44 hg (B := w.heap.size) (by have := O67.out; have := O70.out; have := O73.out; have := O76.out; have := O81.out; have := O94.out; omega)
  obtain ⟨A41, c42, rfl, hle, hC⟩ := Kd.R_reads hF44b
  have HC45 := Aside0.mk hC
  have HL46 := Aside0.mk hle
  clear hle hC
  have F44 := Aside0.mk (show Kd.R (Kd.int .i64) 3 w8 w.heap.size (fun k_ => (lo92 ≤ k_ ∧ k_ < hi93) ∧ True) (.slice A41 x8.length c42) x8 from hF44b)
  clear hF44 hF44b
  replace HN := Aside0.mk (show hi93 ≤ w8.heap.size from ho.2.2)
  clear ho hg
  replace HB := HB2
  clear HB2 hb
  go_wp2_with fail
  go_at_call 19
  refine (impl_FirstFit.calls k A41 c42 x8 x15 x16 _ (by (with_reducible repeat (first | apply Kd.C_drewN | apply Kd.C_drew)); exact HC45.out) HL46.out H57.out).mono ?_
  rintro e w9 ⟨v49, rfl, hF50, hb⟩
  have HB2 := Aside0.mk (below_next (N := hi93) (by repeat (first | exact HB.out | apply pw_below_drewN | apply below_drew1)) (by exact HN.out) (by have := O67.out; have := O70.out; have := O73.out; have := O76.out; have := O81.out; have := O94.out; omega) hb)
  replace F12 := Aside0.mk (show Kd.S (Kd.slice 3 (Kd.int .i64)) 22 w9 w.heap.size (fun k_ => (lo68 ≤ k_ ∧ k_ < hi69) ∧ True) (.slice A9 x15.length c10) x15 from Kd.S_below (by (with_reducible repeat (first | apply Kd.S_drewN | apply Kd.S_drew)); exact F12.out) hb)
  replace HC13 := Aside0.mk (show Kd.C (Kd.slice 3 (Kd.int .i64)) w9 A9 x15.length x15 from Kd.C_below (by (with_reducible repeat (first | apply Kd.C_drewN | apply Kd.C_drew)); exact HC13.out) hb)
  replace F26 := Aside0.mk (show Kd.S (Kd.slice 3 (Kd.int .i64)) 22 w9 w.heap.size (fun k_ => (lo74 ≤ k_ ∧ k_ < hi75) ∧ True) (.slice A23 x15.length c24) x39 from Kd.S_below (by (with_reducible repeat (first | apply Kd.S_drewN | apply Kd.S_drew)); exact F26.out) hb)
  replace HC27 := Aside0.mk (show Kd.C (Kd.slice 3 (Kd.int .i64)) w9 A23 x39.length x39 from Kd.C_below (by (with_reducible repeat (first | apply Kd.C_drewN | apply Kd.C_drew)); exact HC27.out) hb)
  replace F44 := Aside0.mk (show Kd.R (Kd.int .i64) 3 w9 w.heap.size (fun k_ => (lo92 ≤ k_ ∧ k_ < hi93) ∧ True) (.slice A41 x8.length c42) x8 from Kd.R_below (by (with_reducible repeat (first | apply Kd.R_drewN | apply Kd.R_drew)); exact F44.out) hb)
  replace HC45 := Aside0.mk (show Kd.C (Kd.int .i64) w9 A41 x8.length x8 from Kd.C_below (by (with_reducible repeat (first | apply Kd.C_drewN | apply Kd.C_drew)); exact HC45.out) hb)
  obtain ⟨lo95, hi96, ho, hg⟩ := fresh_pts (N := hi93) hb (by exact HN.out)
  have O97 := Aside0.mk (show hi93 ≤ lo95 ∧ lo95 ≤ hi96 from ⟨ho.1, ho.2.1⟩)
  have hF50b := S_in hF50 hg (B := w.heap.size) (by have := O67.out; have := O70.out; have := O73.out; have := O76.out; have := O81.out; have := O94.out; have := O97.out; omega)
  obtain ⟨A47, c48, rfl, hle, hC⟩ := Kd.S_reads hF50b
  have HC51 := Aside0.mk hC
  have HL52 := Aside0.mk hle
  clear hle hC
  have F50 := Aside0.mk (show Kd.S (Kd.slice 3 (Kd.int .i64)) 22 w9 w.heap.size (fun k_ => (lo95 ≤ k_ ∧ k_ < hi96) ∧ True) (.slice A47 x15.length c48) x15 from hF50b)
  clear hF50 hF50b
  replace HN := Aside0.mk (show hi96 ≤ w9.heap.size from ho.2.2)
  clear ho hg
  replace HB := HB2
  clear HB2 hb
  clear F44 HC45
  go_wp2_with fail
  go_at_call 20
  refine (laws_eqIntSS.calls k A47 c48 x15 A9 c10 x15 true _ (by (with_reducible repeat (first | apply Kd.C_drewN | apply Kd.C_drew)); exact HC51.out) HL52.out (by (with_reducible repeat (first | apply Kd.C_drewN | apply Kd.C_drew)); exact HC13.out) HL14.out H58.out).mono ?_
  rintro e w_98 ⟨rfl, ⟨nd99, rfl⟩⟩
  clear F12 HC13
  clear F50 HC51
  go_wp2_with fail
  go_at_call 23
  refine calls_of_args (args' := #[.slice A23 x39.length c24, .int .i64 1]) (by rw [HQ88.out]) ?_
  refine (laws_heldIntSS.calls k A23 c24 x39 1 t38 _ (by (with_reducible repeat (first | apply Kd.C_drewN | apply Kd.C_drew)); exact HC27.out) HL28.out H63.out).mono ?_
  rintro e w_100 ⟨rfl, ⟨nd101, rfl⟩⟩
  clear F26 HC27
  have d102 : decide (t38 < 0) = false := decide_eq_false (by have := H64.out; omega)
  go_wp2_with fail
  go_ret
  exact ⟨rfl, (by repeat (first | exact HB.out | apply pw_below_drewN | apply below_drew1))⟩

/-- THE ONE PURE STATEMENT of laws_FnExactFirstFit. -/
def laws_FnExactFirstFit.Pure : Prop := ∀ (l0 : List Int), (l0.length ≤ maxLen ∧ ∀ x ∈ l0, (Lit.int .i64 x).wf = true) → ∃ k, laws_FnExactFirstFit.f k l0 = some true
theorem laws_FnExactFirstFit.walk (P : laws_FnExactFirstFit.Pure) (A0 : Option Addr) (c0 : Nat) (l0 : List Int) (w : World) (hr0 : Kd.C (Kd.int .i64) w A0 l0.length l0) (hc0 : l0.length ≤ c0) (hw0 : (l0.length ≤ maxLen ∧ ∀ x ∈ l0, (Lit.int .i64 x).wf = true)) :
    Calls Try.prog 6 #[.slice A0 l0.length c0] w fun e w' => e = .returned (.bool true) ∧ Below w.heap.size w w' := by
  obtain ⟨k, h⟩ := P l0 hw0
  refine (laws_FnExactFirstFit.calls k _ _ l0 true w hr0 hc0 h).mono ?_
  rintro e w' ⟨rfl, hd⟩
  exact ⟨rfl, hd⟩

end Go.Proofs.Ytojoglgjfocgiaa.GLFirstFit
