-- Written by a program of this session (gprint.py), over the kit's print: not trusted: Lean checks it.
import Derived.Test.YtdlblaihleojmaaGLCheapestFit0
import Derived.Test.YtdlblaihleojmaaGLCheapestFit4
namespace Go.Proofs.Ytdlblaihleojmaa.GLCheapestFit
open Go.RowKit Go.Proofs.YtdlblaihleojmaaW.PrintWords Go.Proofs.YtdlblaihleojmaaW.PrintLast Go.Proofs.YtdlblaihleojmaaW.PrintMore Go.Proofs.YtdlblaihleojmaaW.PrintOwn
attribute [local go_sem] max2_int min2_int max_two min_two max_three min_three max_four min_four   -- for this text's walks alone
set_option linter.unusedVariables false
set_option linter.unusedSimpArgs false

/-! ### slices_Repeat_int_int: function 64 -/
def slices_Repeat_int_int.f (l0 : List Int) (a1 : Int) : Option (List Int) := match l0 with
  | [x] => if 1 ≤ a1 ∧ a1 ≤ 1000000 then some (List.replicate a1.toNat x) else none
  | _ => none
theorem slices_Repeat_int_int.mul (N : Nat) (h : N ≤ 1000000) : bits_Mul.f 1 (N : Int) = some (0, (N : Int)) := by
  have e0 : (1 : Int) / 4294967296 = 0 := by decide
  have e1 : ((N : Int)) / 4294967296 = 0 := by omega
  have e2 : Go.bits .and .u64 1 4294967295 = 1 := by decide
  have wz : IntKind.u64.wrap 0 = 0 := by decide
  have wn : IntKind.u64.wrap (N : Int) = (N : Int) := by
    unfold IntKind.wrap
    simp [IntKind.bits, IntKind.signed]
    omega
  unfold bits_Mul.f bits_Mul64.f
  rw [e0, e1, e2]
  have eb : Go.bits .and .u64 (N : Int) 4294967295 = (N : Int) := by
    have h1 : (BitVec.ofInt 64 (N : Int)).toNat = N := by
      rw [BitVec.ofInt_natCast, BitVec.toNat_ofNat]
      exact Nat.mod_eq_of_lt (by omega)
    have h2 : (BitVec.ofInt 64 (4294967295 : Int)).toNat = 4294967295 := by decide
    show IntKind.u64.wrap ((BitVec.ofInt 64 (N : Int) &&& BitVec.ofInt 64 (4294967295 : Int)).toNat : Int) = _
    rw [BitVec.toNat_and, h1, h2, show (4294967295 : Nat) = 2 ^ 32 - 1 from rfl, Nat.and_two_pow_sub_one_eq_mod, Nat.mod_eq_of_lt (by omega)]
    exact wn
  have ez : Go.bits .and .u64 0 4294967295 = 0 := by decide
  have e3 : (0 : Int) / 4294967296 = 0 := by decide
  simp only [Int.zero_mul, Int.mul_zero, Int.one_mul, eb, wz, wn, e1, e3, ez, Int.zero_add, Int.add_zero, Option.bind_some]
theorem slices_Repeat_int_int.row {W : World} {base N : Nat} {ok : Nat → Prop} {v : Value} (h : (Kd.int .i64).R 3 W base ok v (List.replicate N 0)) (hN : 1 ≤ N) : ∃ (g cap : Nat) (cur : List Value), v = .slice (some ⟨g, 0, none⟩) N cap ∧ base ≤ g ∧ W.heap[g]? = some (.cells cur.toArray 3 (0, 0)) ∧ N ≤ cap ∧ cap ≤ maxLen ∧ cur.length = cap := by
  obtain ⟨_, ⟨_, hz⟩ | ⟨g, cap, cur, e, hb, hh, hle, hm, hs, _⟩⟩ := Kd.own_of_R h
  · simp at hz
    omega
  · refine ⟨g, cap, cur.toList, by rw [e]; simp, hb, by rw [hh], by simpa using hle, hm, by simpa using hs⟩
theorem slices_Repeat_int_int.unrow {W : World} {base N g cap : Nat} {x : Int} {cur : List Value} (hb : base ≤ g) (hh : W.heap[g]? = some (.cells cur.toArray 3 (0, 0))) (hle : N ≤ cap) (hm : cap ≤ maxLen) (hs : cur.length = cap) (ht : cur.take N = List.replicate N (.int .i64 x)) :
    (Kd.int .i64).R 3 W base (fun _ => True) (.slice (some ⟨g, 0, none⟩) N cap) (List.replicate N x) := by
  refine Kd.R_of_own ⟨by simp [encs], Or.inr ⟨g, cap, cur.toArray, by simp, hb, hh, by simpa using hle, hm, by simpa using hs, ?_⟩⟩ (fun _ _ => trivial)
  simp [encs, ht]
theorem slices_Repeat_int_int.spl {cur : List Value} {v : Value} {k m : Nat} (hk : cur.take k = List.replicate k v) (hkl : k + m ≤ cur.length) : (splice cur k (List.replicate m v)).take (k + m) = List.replicate (k + m) v := by
  unfold splice
  rw [hk, ← List.append_assoc, List.take_append_of_le_length (by simp), List.take_of_length_le (by simp), List.replicate_append_replicate]
set_option maxHeartbeats 1000000 in
set_option maxRecDepth 100000 in
theorem slices_Repeat_int_int.calls (A0 : Option Addr) (c0 : Nat) (l0 : List Int) (a1 : Int) (r : List Int) (w : World) (hr0 : Kd.C (Kd.int .i64) w A0 l0.length l0) (hc0 : l0.length ≤ c0) (h : slices_Repeat_int_int.f l0 a1 = some r) :
    Calls Try.prog 64 #[.slice A0 l0.length c0, .int .i64 a1] w fun e w' => ∃ v0_ : Value, e = .returned (v0_) ∧ Kd.R (Kd.int .i64) 3 w' w.heap.size (fun _ => True) v0_ r ∧ Below w.heap.size w w' := by
  obtain ⟨x, rfl⟩ : ∃ x, l0 = [x] := by
    unfold slices_Repeat_int_int.f at h
    split at h
    · exact ⟨_, rfl⟩
    · cases h
  have h2 : (if 1 ≤ a1 ∧ a1 ≤ 1000000 then some (List.replicate a1.toNat x) else none) = some r := h
  clear h
  split at h2
  case isFalse => cases h2
  case isTrue hn =>
  obtain rfl := Option.some.inj h2
  clear h2
  obtain ⟨N, rfl⟩ := Int.eq_ofNat_of_zero_le (show 0 ≤ a1 by omega)
  obtain ⟨ad, ea, hx⟩ := Kd.at_int hr0 0 (Int.le_refl 0) (by simp)
  cases ea
  have HX := Aside0.mk hx
  have HN := Aside0.mk (show 1 ≤ N ∧ N ≤ 1000000 by omega)
  have HM := Aside0.mk (slices_Repeat_int_int.mul N HN.out.2)
  have u1 : IntKind.u64.wrap ((1 : Nat) : Int) = 1 := by decide
  have u2 : IntKind.u64.wrap (1 : Int) = 1 := by decide
  have u3 : IntKind.u64.wrap (N : Int) = (N : Int) := by
    unfold IntKind.wrap
    simp [IntKind.bits, IntKind.signed]
    omega
  have u4 : IntKind.i64.wrap (N : Int) = (N : Int) := by
    unfold IntKind.wrap
    simp [IntKind.bits, IntKind.signed]
    omega
  have g1 : decide ((N : Int) < 0) = false := decide_eq_false (by omega)
  have g2 : decide ((N : Int) > 9223372036854775807) = false := decide_eq_false (by omega)
  have g3 : decide ((9223372036854775807 : Int) < (N : Int)) = false := decide_eq_false (by omega)
  have HSRC := Aside0.mk (show ∀ W, Below w.heap.size w W → ∀ (j : Nat) (v : Value), [Value.int .i64 x][j]? = some v → W.cell? (ad.add j) = some v from fun W hb j v hj => by
    have h0 : j = 0 := by
      have := (List.getElem?_eq_some_iff.1 hj).1
      simp only [List.length_singleton] at this
      omega
    subst h0
    obtain rfl : (.int .i64 x : Value) = v := by simpa using hj
    exact (hb.cell (World.block_lt_of_cell? w _ hx)).trans hx)
  clear hx hn hr0 hc0
  simp only [List.length_singleton]
  go_enter Try.func64, Try.ntmps64
  go_wp2_with (first | (go_at_call 83; refine (bits_Mul.calls 1 (N : Int) 0 (N : Int) _ HM.out).mono ?_; rintro e w' ⟨rfl, ⟨nd, rfl⟩⟩) | ((with_reducible refine gate_dst (N := 30) rfl ?_); refine Kd.R_make (Kd.int .i64) _ 3 rfl (N := 30) rfl 27 _ _ rfl (N : Int) rfl rfl Try.underlying27 (.int .i64 0) 8 info3 rfl (by decide) (by omega) 0 (ok := fun _ => True) (okp := fun _ => True) rfl (fun _ hk => hk) trivial (Int.natCast_nonneg _) (by have := HN.out.2; simp; omega) (pw_below_drewN (Below.refl _ w) _) (Nat.le_refl _) ?_; intro v1 w1 ho1 hb1 hg_ hnew_; clear hg_ hnew_; rw [Int.toNat_natCast] at ho1; obtain ⟨g, cap, cur, rfl, hbg, hgh, hle, hmx, hsz⟩ := slices_Repeat_int_int.row ho1 HN.out.1; have HB1 := Aside0.mk hb1; have HG1 := Aside0.mk (And.intro hbg (And.intro hgh (And.intro hle (And.intro hmx hsz)))); clear ho1 hb1 hbg hgh hle hmx hsz) | ((with_reducible refine wpList_copy_splice (o := ⟨some 33, _, _, _, _, _⟩) ?c1 (.tmp 31) (.tmp 32) 27 27 ?c2 3 ?c3 ?c4 (some ⟨g, 0, none⟩) (some ad) N cap 1 c0 ?c5 ?c6 g 0 cur 3 ?c7 [.int .i64 x] ?c8 ?c9 ?c10 ?c11 w.heap.size w ?c12 ?c13 ?c14); (case c1 => rfl); (case c2 => rfl); (case c3 => exact Try.underlying27); (case c4 => kernel_rfl); (case c5 => rfl); (case c6 => rfl); (case c7 => exact HG1.out.2.1); (case c8 => have := HN.out; show 1 = min 1 N; omega); (case c9 => exact (fun _ => ⟨rfl, ad, rfl, HSRC.out _ HB1.out⟩)); (case c10 => have h1_ := HG1.out.2.2; have h2_ := HN.out; show 0 + 1 ≤ cur.length; omega); (case c11 => simp [Value.oneCell']); (case c12 => exact HB1.out); (case c13 => exact HG1.out.1); intro w2 HG2 hB2; have HB2 := Aside0.mk hB2; clear hB2))
  go_loopg [8] N (fun gk v8 w' => ∃ (x8 : Int) (cu : List Value), v8 = .int .i64 x8 ∧ Aside0 (1 ≤ x8 ∧ x8 ≤ (N : Int) ∧ (N : Int) - x8 ≤ gk) ∧ Aside0 (w'.heap[g]? = some (.cells cu.toArray 3 (0, 0)) ∧ cu.length = cap ∧ cu.take x8.toNat = List.replicate x8.toNat (.int .i64 x)) ∧ Aside0 (Below w.heap.size w w'))
  case atStart =>
    refine ⟨1, splice cur 0 [.int .i64 x], rfl, ⟨by have := HN.out; omega⟩, ⟨HG2.out, ?_, ?_⟩, HB2⟩
    · rw [length_splice _ _ _ (by have h1_ := HG1.out.2.2; have h2_ := HN.out; show 0 + 1 ≤ cur.length; omega)]
      exact HG1.out.2.2.2.2
    · simp [splice]
  case round =>
    obtain ⟨x8, cu, rfl, HI, HC, HB⟩ := hrel
    by_cases c : x8 < (N : Int)
    · have cb : decide (x8 < (N : Int)) = true := decide_eq_true c
      have CC := Aside0.mk c
      have s1 : (0 ≤ x8) = True := eq_true (by have := HI.out; omega)
      have s2 : (x8 ≤ (N : Int)) = True := eq_true (by omega)
      have s3 : (x8 ≤ (cap : Int)) = True := eq_true (by have := HG1.out.2.2; omega)
      have s4 : decide (0 ≤ x8) = true := decide_eq_true (of_eq_true s1)
      have s5 : decide (x8 ≤ (N : Int)) = true := decide_eq_true (of_eq_true s2)
      have s6 : decide (x8 ≤ (cap : Int)) = true := decide_eq_true (of_eq_true s3)
      clear c
      obtain ⟨m, hm⟩ : ∃ m, m = Nat.min x8.toNat (N - x8.toNat) := ⟨_, rfl⟩
      have HM1 := Aside0.mk (show m = Nat.min x8.toNat (N - x8.toNat) ∧ 1 ≤ m ∧ m ≤ x8.toNat ∧ x8.toNat + m ≤ N from ⟨hm, by have h1_ : m = min x8.toNat (N - x8.toNat) := hm; have h2_ := HI.out; have h3_ := CC.out; omega⟩)
      have HNE := Aside0.mk (show ¬ cap = x8.toNat by have h1_ := HG1.out.2.2.1; have h3_ := CC.out; have h4_ := HI.out; omega)
      have hcn : (cap = x8.toNat) = False := eq_false HNE.out
      have HS1 := Aside0.mk (show ∀ (j : Nat) (v : Value), (List.replicate m (.int .i64 x : Value))[j]? = some v → wr.drew.cell? ((⟨g, 0, none⟩ : Addr).add j) = some v from fun j v hj => by
        have hjm : j < m := by
          have := (List.getElem?_eq_some_iff.1 hj).1
          rwa [List.length_replicate] at this
        rw [List.getElem?_replicate, if_pos hjm] at hj
        obtain rfl := Option.some.inj hj
        have hcell := Go.cell_of_row wr g j cu.toArray 3 (0, 0) HC.out.1
        rw [show ((⟨g, 0, none⟩ : Addr).add j) = ⟨g, j, none⟩ from by first | (rw [add_plain]; done) | (rw [add_plain]; congr 1; omega) | (simp only [add_plain, Nat.zero_add]) | (show (⟨g, 0 + j, none⟩ : Addr) = _; rw [Nat.zero_add])]
        show wr.cell? ⟨g, j, none⟩ = _
        rw [hcell]
        have ht := HC.out.2.2
        have h2 : (cu.take x8.toNat)[j]? = some (.int .i64 x) := by
          rw [ht, List.getElem?_replicate, if_pos (by have := HM1.out; omega)]
        rw [List.getElem?_take_of_lt (by have := HM1.out; omega)] at h2
        simpa using h2)
      clear hm
      try go_wp2
      refine start_ (n := 10) (S := fun w' => True) (ds := []) #[false, false, false, false, false, false, false, false, false, false] (by kernel_rfl) rfl rfl trivial (fun hHeld => ?_)
      refine pure_ (i := 0) (N := some 38) (v := ?_) (a' := ?_) #[true, false, false, false, false, false, false, false, false, false] rfl rfl (by kernel_rfl) (fun _ _ _ h => h) (Or.inl ⟨by rfl, ?_⟩) ?_ ?_
      rotate_left
      · intro w'
        go_simp
        with_reducible rfl
      rotate_left
      · simp only [Act.put, List.setIfInBounds_toArray, List.set_cons_zero, List.set_cons_succ, i64_w, i32_w]
        rfl
      refine pure_ (i := 1) (N := some 39) (v := ?_) (a' := ?_) #[true, true, false, false, false, false, false, false, false, false] rfl rfl (by kernel_rfl) (fun _ _ _ h => h) (Or.inl ⟨by rfl, ?_⟩) ?_ ?_
      rotate_left
      · intro w'
        go_simp
        with_reducible rfl
      rotate_left
      · simp only [Act.put, List.setIfInBounds_toArray, List.set_cons_zero, List.set_cons_succ, i64_w, i32_w]
        rfl
      refine pure_ (i := 2) (N := some 40) (v := ?_) (a' := ?_) #[true, true, true, false, false, false, false, false, false, false] rfl rfl (by kernel_rfl) (fun _ _ _ h => h) (Or.inl ⟨by rfl, ?_⟩) ?_ ?_
      rotate_left
      · intro w'
        go_simp
        with_reducible rfl
      rotate_left
      · simp only [Act.put, List.setIfInBounds_toArray, List.set_cons_zero, List.set_cons_succ, i64_w, i32_w]
        rfl
      refine pure_ (i := 3) (N := some 41) (v := ?_) (a' := ?_) #[true, true, true, true, false, false, false, false, false, false] rfl rfl (by kernel_rfl) (fun _ _ _ h => h) (Or.inl ⟨by rfl, ?_⟩) ?_ ?_
      rotate_left
      · intro w'
        go_simp
        with_reducible rfl
      rotate_left
      · simp only [Act.put, List.setIfInBounds_toArray, List.set_cons_zero, List.set_cons_succ, i64_w, i32_w]
        rfl
      refine pure_ (i := 4) (N := some 42) (v := ?_) (a' := ?_) #[true, true, true, true, true, false, false, false, false, false] rfl rfl (by kernel_rfl) (fun _ _ _ h => h) (Or.inl ⟨by rfl, ?_⟩) ?_ ?_
      rotate_left
      · intro w'
        go_simp
        with_reducible rfl
      rotate_left
      · simp only [Act.put, List.setIfInBounds_toArray, List.set_cons_zero, List.set_cons_succ, i64_w, i32_w]
        rfl
      refine pure_ (i := 5) (N := some 43) (v := ?_) (a' := ?_) #[true, true, true, true, true, true, false, false, false, false] rfl rfl (by kernel_rfl) (fun _ _ _ h => h) (Or.inl ⟨by rfl, ?_⟩) ?_ ?_
      rotate_left
      · intro w'
        go_simp
        with_reducible rfl
      rotate_left
      · simp only [Act.put, List.setIfInBounds_toArray, List.set_cons_zero, List.set_cons_succ, i64_w, i32_w]
        rfl
      refine pure_ (i := 6) (N := some 44) (v := ?_) (a' := ?_) #[true, true, true, true, true, true, true, false, false, false] rfl rfl (by kernel_rfl) (fun _ _ _ h => h) (Or.inl ⟨by rfl, ?_⟩) ?_ ?_
      rotate_left
      · intro w'
        go_simp
        with_reducible rfl
      rotate_left
      · simp only [Act.put, List.setIfInBounds_toArray, List.set_cons_zero, List.set_cons_succ, i64_w, i32_w]
        rfl
      refine one_ (i := 7) (N := some 45) #[true, true, true, true, true, true, true, true, false, false] rfl rfl (by kernel_rfl) (by decide) (fun K hK => ?_)
      refine step_copy_splice rfl (.tmp 41) (.tmp 44) 27 27 rfl 3 Try.underlying27 (by kernel_rfl) (some ⟨g, x8.toNat, none⟩) (some ⟨g, 0, none⟩) (N - x8.toNat) (cap - x8.toNat) x8.toNat cap (by rfl) (by rfl) g x8.toNat cu 3 HC.out.1 (List.replicate m (.int .i64 x)) (by rw [List.length_replicate]; exact HM1.out.1) (fun _ => ⟨rfl, ⟨g, 0, none⟩, rfl, HS1.out⟩) (by rw [List.length_replicate]; have h1_ := HM1.out; have h2_ := HG1.out.2.2; have h3_ := HC.out.2.1; omega) (by intro v hv; rw [List.eq_of_mem_replicate hv]; rfl) w.heap.size w (below_drew1 HB.out) HG1.out.1 ?_
      intro w4 HG4 hB4
      have HB4 := Aside0.mk hB4
      clear hB4
      rw [List.length_replicate]
      refine hK.out _ _ trivial (fun hHeld => ?_)
      clear hK K
      refine norm_ (a' := ?_) ?_ ?_
      rotate_left
      · show Act.put _ (some 45) _ = _
        simp only [Act.put, List.setIfInBounds_toArray, List.set_cons_zero, List.set_cons_succ, i64_w, i32_w]
        rfl
      refine pure_ (i := 8) (N := some 46) (v := ?_) (a' := ?_) #[true, true, true, true, true, true, true, true, true, false] rfl rfl (by kernel_rfl) (fun _ _ _ h => h) (Or.inl ⟨by rfl, ?_⟩) ?_ ?_
      rotate_left
      · intro w'
        go_simp
        with_reducible rfl
      rotate_left
      · simp only [Act.put, List.setIfInBounds_toArray, List.set_cons_zero, List.set_cons_succ, i64_w, i32_w]
        rfl
      refine pure_ (i := 9) (N := some 8) (v := ?_) (a' := ?_) #[true, true, true, true, true, true, true, true, true, true] rfl rfl (by kernel_rfl) (fun _ _ _ h => h) (Or.inl ⟨by rfl, ?_⟩) ?_ ?_
      rotate_left
      · intro w'
        go_simp
        with_reducible rfl
      rotate_left
      · simp only [Act.put, List.setIfInBounds_toArray, List.set_cons_zero, List.set_cons_succ, i64_w, i32_w]
        rfl
      refine done_ (by kernel_rfl) ?_
      try go_wp2
      go_roundg (N - (x8.toNat + m))
      case measure => have h1_ := HI.out; have h2_ := HM1.out; have h3_ := CC.out; omega
      case rel =>
        refine ⟨x8 + (m : Int), splice cu x8.toNat (List.replicate m (.int .i64 x)), ?_, ⟨by have h1_ := HI.out; have h2_ := HM1.out; have h3_ := CC.out; omega⟩, ⟨HG4.out, ?_, ?_⟩, HB4⟩
        · first | rfl | (rw [show wrap64 (x8 + (m : Int)) = x8 + (m : Int) by have h1_ := HI.out; have h2_ := HM1.out; have h3_ := HN.out; have h4_ := CC.out; unfold wrap64; omega]) | (simp; have h1_ := HI.out; have h2_ := HM1.out; have h3_ := HN.out; have h4_ := CC.out; unfold wrap64; omega)
        · rw [length_splice _ _ _ (by rw [List.length_replicate]; have h1_ := HM1.out; have h2_ := HG1.out.2.2; have h3_ := HC.out.2.1; omega)]
          exact HC.out.2.1
        · rw [show (x8 + (m : Int)).toNat = x8.toNat + m by have h1_ := HI.out; omega]
          exact slices_Repeat_int_int.spl HC.out.2.2 (by have h1_ := HM1.out; have h2_ := HG1.out.2.2; have h3_ := HC.out.2.1; omega)
    · have cb : decide (x8 < (N : Int)) = false := decide_eq_false c
      have CC := Aside0.mk c
      clear c
      go_wp2
      go_ret
      refine ⟨.slice (some ⟨g, 0, none⟩) N cap, rfl, ?_, HB.out⟩
      have h1_ := HI.out
      have h2_ := CC.out
      have h3_ := HC.out.2.2
      rw [show x8.toNat = N by omega] at h3_
      try rw [Int.toNat_natCast]
      exact slices_Repeat_int_int.unrow HG1.out.1 HC.out.1 HG1.out.2.2.1 HG1.out.2.2.2.1 HC.out.2.1 h3_

end Go.Proofs.Ytdlblaihleojmaa.GLCheapestFit
