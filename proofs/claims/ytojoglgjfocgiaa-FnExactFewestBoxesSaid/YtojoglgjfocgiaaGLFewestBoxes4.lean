-- Written by a program of this session (gprint.py), over the kit's print: not trusted: Lean checks it.
import Derived.Test.YtojoglgjfocgiaaGLFewestBoxes0
import Derived.Test.YtojoglgjfocgiaaGLFewestBoxes3
namespace Go.Proofs.Ytojoglgjfocgiaa.GLFewestBoxes
open Go.RowKit Go.Proofs.YtojoglgjfocgiaaW.PrintWords Go.Proofs.YtojoglgjfocgiaaW.PrintLast Go.Proofs.YtojoglgjfocgiaaW.PrintMore Go.Proofs.YtojoglgjfocgiaaW.PrintOwn
attribute [local go_sem] max2_int min2_int max_two min_two max_three min_three max_four min_four   -- for this text's walks alone
set_option linter.unusedVariables false
set_option linter.unusedSimpArgs false

/-! ### impl_fewest: function 37 -/
def impl_fewest.loop (g : List Int → Int → Int) (x : Int) (bx : List Int) : Nat → Int → Int → Int
  | 0, _, mo => mo
  | m + 1, k, mo => impl_fewest.loop g x bx m (k + 1) (if rd bx k + x ≤ 20 then mn mo (g (bx.set k.toNat (rd bx k + x)) mo) else mo)
def impl_fewest.few (l : List Int) : Nat → Int → List Int → Int → Int
  | 0, _, bx, mo => if (bx.length : Int) ≥ mo then mo else bx.length
  | m + 1, F, bx, mo => if (bx.length : Int) ≥ mo then mo else mn (impl_fewest.loop (impl_fewest.few l m (F + 1)) (rd l F) bx bx.length 0 mo) (impl_fewest.few l m (F + 1) (bx ++ [rd l F]) (impl_fewest.loop (impl_fewest.few l m (F + 1)) (rd l F) bx bx.length 0 mo))
set_option maxHeartbeats 8000000 in
set_option maxRecDepth 100000 in
theorem impl_fewest.run (A0 : Option Addr) (c0 : Nat) (l0 : List Int) (w0 : World) (hr0 : Kd.C (Kd.int .i64) w0 A0 l0.length l0) (hc0 : l0.length ≤ c0) (hit : ∀ x ∈ l0, 1 ≤ x ∧ x ≤ 20) (hl0 : l0.length ≤ 9) : ∀ (m : Nat) (F : Int) (bx : List Int) (mo : Int) (u : Value) (P0_ : Nat → Prop) (w : World), 0 ≤ F → F + m = l0.length → (∀ v ∈ bx, 0 ≤ v ∧ v ≤ 20) → bx.length + m ≤ 20 → Below w0.heap.size w0 w → Kd.R (Kd.int .i64) 3 w w0.heap.size P0_ u bx →
    Calls Try.prog 37 #[.slice A0 l0.length c0, .int .i64 F, u, .int .i64 mo] w fun e w' => e = .returned (.int .i64 (impl_fewest.few l0 m F bx mo)) ∧ Kd.R (Kd.int .i64) 3 w' w0.heap.size P0_ u bx ∧ Below w0.heap.size w0 w' ∧ Kept w w' (fun k => some k = u.ownBlock)
  | 0, F, bx, mo, u, P0_, w, h0, hF, hb, hlen, hB, hR => by
    obtain ⟨Ao, co, rfl⟩ := Kd.R_slice hR
    have HR := Aside0.mk hR
    have HB := Aside0.mk hB
    clear hB hR
    have e1 : decide (F = (l0.length : Int)) = true := decide_eq_true (by omega)
    have e2 : (F == (l0.length : Int)) = true := by rw [beq_iff_eq]; omega
    rw [impl_fewest.few]
    by_cases c : (bx.length : Int) ≥ mo
    · rw [if_pos c]
      have d1 : decide ((bx.length : Int) ≥ mo) = true := decide_eq_true c
      have d2 : decide (mo ≤ (bx.length : Int)) = true := decide_eq_true c
      clear c
      go_enter Try.func37, Try.ntmps37
      go_wp2
      go_ret
      exact ⟨rfl, HR.out, HB.out, Kept.refl _ _⟩
    · rw [if_neg c]
      have d1 : decide ((bx.length : Int) ≥ mo) = false := decide_eq_false c
      have d2 : decide (mo ≤ (bx.length : Int)) = false := decide_eq_false c
      clear c
      go_enter Try.func37, Try.ntmps37
      go_wp2
      go_ret
      exact ⟨rfl, HR.out, HB.out, Kept.refl _ _⟩
  | m + 1, F, bx, mo, u, P0_, w, h0, hF, hb, hlen, hB, hR => by
    have IH := Aside0.mk (impl_fewest.run A0 c0 l0 w0 hr0 hc0 hit hl0 m)
    obtain ⟨Ao, co, rfl⟩ := Kd.R_slice hR
    have HR := Aside0.mk hR
    have HB := Aside0.mk hB
    have HR0 := Aside0.mk hr0
    have HIT := Aside0.mk hit
    have HBX := Aside0.mk hb
    have HF := Aside0.mk (show 0 ≤ F ∧ F + ((m + 1 : Nat) : Int) = l0.length ∧ l0.length ≤ 9 ∧ bx.length + (m + 1) ≤ 20 from ⟨h0, hF, hl0, hlen⟩)
    have e1 : decide (F = (l0.length : Int)) = false := decide_eq_false (by omega)
    have e2 : (F == (l0.length : Int)) = false := by rw [beq_eq_false_iff_ne]; omega
    have hx1 := hit (rd l0 F) (by
      show l0.getD F.toNat 0 ∈ l0
      rw [List.getD_eq_getElem?_getD, List.getElem?_eq_getElem (by omega)]
      exact List.getElem_mem _)
    have HX := Aside0.mk hx1
    clear hB hR hr0 hit hb h0 hF hl0 hlen hx1
    rw [impl_fewest.few]
    by_cases c : (bx.length : Int) ≥ mo
    · rw [if_pos c]
      have d1 : decide ((bx.length : Int) ≥ mo) = true := decide_eq_true c
      have d2 : decide (mo ≤ (bx.length : Int)) = true := decide_eq_true c
      clear c
      go_enter Try.func37, Try.ntmps37
      go_wp2
      go_ret
      exact ⟨rfl, HR.out, HB.out, Kept.refl _ _⟩
    · rw [if_neg c]
      have d1 : decide ((bx.length : Int) ≥ mo) = false := decide_eq_false c
      have d2 : decide (mo ≤ (bx.length : Int)) = false := decide_eq_false c
      clear c
      obtain ⟨r, hr⟩ : ∃ r, r = impl_fewest.loop (impl_fewest.few l0 m (F + 1)) (rd l0 F) bx bx.length 0 mo := ⟨_, rfl⟩
      rw [← hr]
      have HT := Aside0.mk hr.symm
      clear hr
      have HK := Aside0.mk (Kept.refl w (fun k => some k = (Value.slice Ao bx.length co).ownBlock))
      go_enter Try.func37, Try.ntmps37
      go_wp2
      go_loopg [3, 23] bx.length (fun gk v3 v23 w' => ∃ (k : Nat) (x3 : Int), v3 = .int .i64 x3 ∧ v23 = .int .i64 (k : Int) ∧ Aside0 (k + gk = bx.length ∧ impl_fewest.loop (impl_fewest.few l0 m (F + 1)) (rd l0 F) bx gk (k : Int) x3 = r) ∧ Aside0 (Kd.R (Kd.int .i64) 3 w' w0.heap.size P0_ (.slice Ao bx.length co) bx) ∧ Aside0 (Below w0.heap.size w0 w') ∧ Aside0 (Kept w w' (fun k => some k = (Value.slice Ao bx.length co).ownBlock)))
      case atStart => exact ⟨0, mo, rfl, rfl, ⟨by omega, HT.out⟩, HR, HB, HK⟩
      case round =>
        clear HR HB HK HT
        obtain ⟨k, x3, rfl, rfl, HT, HR, HB, HK⟩ := hrel
        obtain ⟨ad, ea, hl1⟩ := Kd.at_int (Kd.C_below HR0.out HB.out) F HF.out.1 (by have := HF.out; omega)
        cases ea
        cases gk with
        | zero =>
          have d3 : decide ((k : Int) < (bx.length : Int)) = false := decide_eq_false (by have := HT.out.1; omega)
          have d4 : ((k : Int) < (bx.length : Int)) = False := eq_false (by have := HT.out.1; omega)
          have d5 : decide (k < bx.length) = false := decide_eq_false (by have := HT.out.1; omega)
          have d6 : (k < bx.length) = False := eq_false (by have := HT.out.1; omega)
          have hT := HT.out.2
          rw [impl_fewest.loop] at hT
          subst hT
          have hF1 : wrap64 (F + 1) = F + 1 := by have := HF.out; unfold wrap64; omega
          have hbx2 : ∀ v ∈ bx ++ [rd l0 F], 0 ≤ v ∧ v ≤ 20 := fun v hv => by
            rcases List.mem_append.1 hv with hv | hv
            · exact HBX.out v hv
            · rw [List.mem_singleton.1 hv]
              have := HX.out
              omega
          have hco := (Kd.R_reads' HR.out).2.1
          have s1 : decide ((bx.length : Int) ≤ (co : Int)) = true := decide_eq_true (by omega)
          have s2 : ((bx.length : Int) ≤ (co : Int)) = True := eq_true (by omega)
          have s3 : (0 ≤ (bx.length : Int)) = True := eq_true (by omega)
          have s4 : decide (0 ≤ (bx.length : Int)) = true := decide_eq_true (by omega)
          have s5 : bx.length ≤ co := hco
          have f0 : (0 ≤ F) = True := eq_true HF.out.1
          have f1 : (F < (l0.length : Int)) = True := eq_true (by have := HF.out; omega)
          have f2 : decide (0 ≤ F) = true := decide_eq_true HF.out.1
          have f3 : decide (F < (l0.length : Int)) = true := decide_eq_true (by have := HF.out; omega)
          clear hco
          try go_wp2_with fail
          refine start_ (n := 20) (S := fun w' => w'.cell? (ad.add F.toNat) = some (.int .i64 (rd l0 F))) (ds := [14, 15, 17]) #[false, false, false, false, false, false, false, false, false, false, false, false, false, false, false, false, false, false, false, false] (by kernel_rfl) rfl rfl (hl1) (fun hHeld => ?_)
          refine pure_ (i := 0) (N := some 65) (v := ?_) (a' := ?_) #[true, false, false, false, false, false, false, false, false, false, false, false, false, false, false, false, false, false, false, false] rfl rfl (by kernel_rfl) (fun _ _ _ h => h) (Or.inl ⟨by rfl, ?_⟩) ?_ ?_
          rotate_left
          · intro w'
            go_simp
            with_reducible rfl
          rotate_left
          · simp only [Act.put, List.setIfInBounds_toArray, List.set_cons_zero, List.set_cons_succ, i64_w, i32_w]
            rfl
          refine pure_ (i := 1) (N := some 66) (v := ?_) (a' := ?_) #[true, true, false, false, false, false, false, false, false, false, false, false, false, false, false, false, false, false, false, false] rfl rfl (by kernel_rfl) (fun _ _ _ h => h) (Or.inl ⟨by rfl, ?_⟩) ?_ ?_
          rotate_left
          · intro w'
            go_simp
            with_reducible rfl
          rotate_left
          · simp only [Act.put, List.setIfInBounds_toArray, List.set_cons_zero, List.set_cons_succ, i64_w, i32_w]
            rfl
          refine pure_ (i := 2) (N := some 67) (v := ?_) (a' := ?_) #[true, true, true, false, false, false, false, false, false, false, false, false, false, false, false, false, false, false, false, false] rfl rfl (by kernel_rfl) (fun _ _ _ h => h) (Or.inl ⟨by rfl, ?_⟩) ?_ ?_
          rotate_left
          · intro w'
            go_simp
            with_reducible rfl
          rotate_left
          · simp only [Act.put, List.setIfInBounds_toArray, List.set_cons_zero, List.set_cons_succ, i64_w, i32_w]
            rfl
          refine pure_ (i := 3) (N := some 68) (v := ?_) (a' := ?_) #[true, true, true, true, false, false, false, false, false, false, false, false, false, false, false, false, false, false, false, false] rfl rfl (by kernel_rfl) (fun _ _ _ h => h) (Or.inl ⟨by rfl, ?_⟩) ?_ ?_
          rotate_left
          · intro w'
            go_simp
            with_reducible rfl
          rotate_left
          · simp only [Act.put, List.setIfInBounds_toArray, List.set_cons_zero, List.set_cons_succ, i64_w, i32_w]
            rfl
          refine pure_ (i := 4) (N := some 69) (v := ?_) (a' := ?_) #[true, true, true, true, true, false, false, false, false, false, false, false, false, false, false, false, false, false, false, false] rfl rfl (by kernel_rfl) (fun _ _ _ h => h) (Or.inl ⟨by rfl, ?_⟩) ?_ ?_
          rotate_left
          · intro w'
            go_simp
            with_reducible rfl
          rotate_left
          · simp only [Act.put, List.setIfInBounds_toArray, List.set_cons_zero, List.set_cons_succ, i64_w, i32_w]
            rfl
          refine pure_ (i := 5) (N := some 70) (v := ?_) (a' := ?_) #[true, true, true, true, true, true, false, false, false, false, false, false, false, false, false, false, false, false, false, false] rfl rfl (by kernel_rfl) (fun _ _ _ h => h) (Or.inl ⟨by rfl, ?_⟩) ?_ ?_
          rotate_left
          · intro w'
            go_simp
            with_reducible rfl
          rotate_left
          · simp only [Act.put, List.setIfInBounds_toArray, List.set_cons_zero, List.set_cons_succ, i64_w, i32_w]
            rfl
          refine pure_ (i := 6) (N := some 71) (v := ?_) (a' := ?_) #[true, true, true, true, true, true, true, false, false, false, false, false, false, false, false, false, false, false, false, false] rfl rfl (by kernel_rfl) (fun _ _ _ h => h) (Or.inl ⟨by rfl, ?_⟩) ?_ ?_
          rotate_left
          · intro w'
            go_simp
            with_reducible rfl
          rotate_left
          · simp only [Act.put, List.setIfInBounds_toArray, List.set_cons_zero, List.set_cons_succ, i64_w, i32_w]
            rfl
          refine pure_ (i := 7) (N := some 72) (v := ?_) (a' := ?_) #[true, true, true, true, true, true, true, true, false, false, false, false, false, false, false, false, false, false, false, false] rfl rfl (by kernel_rfl) (fun _ _ _ h => h) (Or.inl ⟨by rfl, ?_⟩) ?_ ?_
          rotate_left
          · intro w'
            go_simp
            with_reducible rfl
          rotate_left
          · simp only [Act.put, List.setIfInBounds_toArray, List.set_cons_zero, List.set_cons_succ, i64_w, i32_w]
            rfl
          refine pure_ (i := 8) (N := some 73) (v := ?_) (a' := ?_) #[true, true, true, true, true, true, true, true, true, false, false, false, false, false, false, false, false, false, false, false] rfl rfl (by kernel_rfl) (fun _ _ _ h => h) (Or.inl ⟨by rfl, ?_⟩) ?_ ?_
          rotate_left
          · intro w'
            go_simp
            with_reducible rfl
          rotate_left
          · simp only [Act.put, List.setIfInBounds_toArray, List.set_cons_zero, List.set_cons_succ, i64_w, i32_w]
            rfl
          refine pure_ (i := 9) (N := some 74) (v := ?_) (a' := ?_) #[true, true, true, true, true, true, true, true, true, true, false, false, false, false, false, false, false, false, false, false] rfl rfl (by kernel_rfl) (fun _ _ _ h => h) (Or.inl ⟨by rfl, ?_⟩) ?_ ?_
          rotate_left
          · intro w'
            go_simp
            with_reducible rfl
          rotate_left
          · simp only [Act.put, List.setIfInBounds_toArray, List.set_cons_zero, List.set_cons_succ, i64_w, i32_w]
            rfl
          refine pure_ (i := 10) (N := some 75) (v := ?_) (a' := ?_) #[true, true, true, true, true, true, true, true, true, true, true, false, false, false, false, false, false, false, false, false] rfl rfl (by kernel_rfl) (fun _ _ _ h => h) (Or.inl ⟨by rfl, ?_⟩) ?_ ?_
          rotate_left
          · intro w'
            go_simp
            with_reducible rfl
          rotate_left
          · simp only [Act.put, List.setIfInBounds_toArray, List.set_cons_zero, List.set_cons_succ, i64_w, i32_w]
            rfl
          refine pure_ (i := 11) (N := some 76) (v := ?_) (a' := ?_) #[true, true, true, true, true, true, true, true, true, true, true, true, false, false, false, false, false, false, false, false] rfl rfl (by kernel_rfl) (fun _ _ _ h => h) (Or.inl ⟨by rfl, ?_⟩) ?_ ?_
          rotate_left
          · intro w'
            go_simp
            with_reducible rfl
          rotate_left
          · simp only [Act.put, List.setIfInBounds_toArray, List.set_cons_zero, List.set_cons_succ, i64_w, i32_w]
            rfl
          refine pure_ (i := 12) (N := some 77) (v := ?_) (a' := ?_) #[true, true, true, true, true, true, true, true, true, true, true, true, true, false, false, false, false, false, false, false] rfl rfl (by kernel_rfl) (fun _ _ _ h => h) (Or.inl ⟨by rfl, ?_⟩) ?_ ?_
          rotate_left
          · intro w'
            go_simp
            with_reducible rfl
          rotate_left
          · simp only [Act.put, List.setIfInBounds_toArray, List.set_cons_zero, List.set_cons_succ, i64_w, i32_w]
            rfl
          refine pure_ (i := 16) (N := some 81) (v := ?_) (a' := ?_) #[true, true, true, true, true, true, true, true, true, true, true, true, true, false, false, false, true, false, false, false] rfl rfl (by kernel_rfl) (fun _ _ _ h => h) (Or.inl ⟨by rfl, ?_⟩) ?_ ?_
          rotate_left
          · intro w'
            go_simp
            with_reducible rfl
          rotate_left
          · simp only [Act.put, List.setIfInBounds_toArray, List.set_cons_zero, List.set_cons_succ, i64_w, i32_w]
            rfl
          refine take_ (i := 13) (N := some 78) (v := ?_) (a' := ?_) #[true, true, true, true, true, true, true, true, true, true, true, true, true, true, false, false, true, false, false, false] rfl rfl (by kernel_rfl) (fun _ _ _ h => h) (Or.inl ⟨by rfl, ?_⟩) hHeld ?_ ?_
          rotate_left
          · intro w' s0
            go_simp
            with_reducible rfl
          rotate_left
          · simp only [Act.put, List.setIfInBounds_toArray, List.set_cons_zero, List.set_cons_succ, i64_w, i32_w]
            rfl
          refine last_ (i := 14) (N := some 79) #[true, true, true, true, true, true, true, true, true, true, true, true, true, true, true, false, true, false, false, false] rfl rfl (by kernel_rfl) (by decide) (fun K hK => ?_)
          refine value_ (w1 := ?_) (v := ?_) (by rfl) rfl ?_ ?_
          rotate_left 2
          · go_simp
            constructor
            · rfl
            · rfl
          refine hK.out _ _ ?_
          clear hK K
          refine norm_ (a' := ?_) ?_ ?_
          rotate_left
          · show Act.put _ (some 79) _ = _
            simp only [Act.put, List.setIfInBounds_toArray, List.set_cons_zero, List.set_cons_succ, i64_w, i32_w]
            rfl
          refine last_ (i := 15) (N := some 80) #[true, true, true, true, true, true, true, true, true, true, true, true, true, true, true, true, true, false, false, false] rfl rfl (by kernel_rfl) (by decide) (fun K hK => ?_)
          refine I_append_full_step (W := wr.drew) rfl (.tmp 74) (.tmp 79) 22 3 (.int .i64 0) 8 rfl Try.underlying22 info3 rfl (by omega) Ao bx (rd l0 F) w0.heap.size (fun k_ => wr.heap.size ≤ k_) rfl rfl (fun _ h_ => h_) (Kd.C_drew (Kd.R_reads' HR.out).2.2) HB.out.size (by have := HF.out; omega) ?_
          intro v1 w1 hR1 hB1
          have HR1 := Aside0.mk hR1
          have HB1 := Aside0.mk hB1
          clear hR1 hB1
          refine hK.out _ _ ?_
          clear hK K
          refine norm_ (a' := ?_) ?_ ?_
          rotate_left
          · show Act.put _ (some 80) _ = _
            simp only [Act.put, List.setIfInBounds_toArray, List.set_cons_zero, List.set_cons_succ, i64_w, i32_w]
            rfl
          refine last_ (i := 17) (N := some 82) #[true, true, true, true, true, true, true, true, true, true, true, true, true, true, true, true, true, true, false, false] rfl rfl (by kernel_rfl) (by decide) (fun K hK => ?_)
          refine goes_ Try.func37 (by kernel_rfl) rfl #[.slice (some ad) l0.length c0, .int .i64 (wrap64 (F + 1)), v1, .int .i64 x3] (by rfl) rfl rfl (by simp only [List.map_toArray, List.map_cons, List.map_nil]; rfl) ?_
          rw [hF1]
          with_reducible refine (IH.out (F + 1) (bx ++ [rd l0 F]) x3 v1 (fun k_ => wr.heap.size ≤ k_) w1 (by have := HF.out; omega) (by have := HF.out; omega) hbx2 (by rw [List.length_append, List.length_singleton]; have := HF.out; omega) ((below_drew1 HB.out).trans (HB1.out.mono (by have := HB.out.size; simpa using this))) HR1.out).mono ?_
          rintro e w2 ⟨rfl, hR2, hB2, hK2⟩
          refine ⟨_, rfl, ?_⟩
          have HB2 := Aside0.mk hB2
          have HK2 := Aside0.mk hK2
          clear hR2 hB2 hK2
          refine hK.out _ _ ?_
          clear hK K
          refine norm_ (a' := ?_) ?_ ?_
          rotate_left
          · show Act.put _ (some 82) _ = _
            simp only [Act.put, List.setIfInBounds_toArray, List.set_cons_zero, List.set_cons_succ, i64_w, i32_w]
            rfl
          refine pure_ (i := 18) (N := some 83) (v := ?_) (a' := ?_) #[true, true, true, true, true, true, true, true, true, true, true, true, true, true, true, true, true, true, true, false] rfl rfl (by kernel_rfl) (fun _ _ _ h => h) (Or.inl ⟨by rfl, ?_⟩) ?_ ?_
          rotate_left
          · intro w'
            go_simp
            with_reducible rfl
          rotate_left
          · simp only [Act.put, List.setIfInBounds_toArray, List.set_cons_zero, List.set_cons_succ, i64_w, i32_w]
            rfl
          refine pure_ (i := 19) (N := some 8) (v := ?_) (a' := ?_) #[true, true, true, true, true, true, true, true, true, true, true, true, true, true, true, true, true, true, true, true] rfl rfl (by kernel_rfl) (fun _ _ _ h => h) (Or.inl ⟨by rfl, ?_⟩) ?_ ?_
          rotate_left
          · intro w'
            go_simp
            with_reducible rfl
          rotate_left
          · simp only [Act.put, List.setIfInBounds_toArray, List.set_cons_zero, List.set_cons_succ, i64_w, i32_w]
            rfl
          refine done_ (by kernel_rfl) ?_
          try go_wp2_with fail
          all_goals go_ret
          all_goals refine ⟨by first | rfl | (congr 2; unfold mn; split <;> first | rfl | omega), ?_, HB2.out, ?_⟩
          all_goals first | (show Kept _ _ _; refine (HK.out.drew.below HB1.out).then_ HK2.out (fun k_ hk_ => Or.inr ?_); have b_ := HR1.out.1 k_ hk_.symm; have c_ := HK.out.1; omega) | (refine Kd.R_mono (Kd.R_kept (Kd.R_below (Kd.R_drew (Kd.R_tight rfl HR.out)) HB1.out) HK2.out (fun k_ h1_ h2_ => ?_)) (fun k_ hk_ => HR.out.1 k_ hk_.symm); have a_ := Kd.R_lt HR.out k_ h1_.symm; have b_ := HR1.out.1 k_ h2_.symm; omega)
        | succ gk =>
          have d3 : decide ((k : Int) < (bx.length : Int)) = true := decide_eq_true (by have := HT.out.1; omega)
          have d4 : ((k : Int) < (bx.length : Int)) = True := eq_true (by have := HT.out.1; omega)
          have d5 : decide (k < bx.length) = true := decide_eq_true (by have := HT.out.1; omega)
          have d6 : (k < bx.length) = True := eq_true (by have := HT.out.1; omega)
          have d7 : (0 ≤ (k : Int)) = True := eq_true (by omega)
          have d8 : decide (0 ≤ (k : Int)) = true := decide_eq_true (by omega)
          have f0 : (0 ≤ F) = True := eq_true HF.out.1
          have f1 : (F < (l0.length : Int)) = True := eq_true (by have := HF.out; omega)
          have f2 : decide (0 ≤ F) = true := decide_eq_true HF.out.1
          have f3 : decide (F < (l0.length : Int)) = true := decide_eq_true (by have := HF.out; omega)
          have hF1 : wrap64 (F + 1) = F + 1 := by have := HF.out; unfold wrap64; omega
          have hbk := HBX.out (rd bx (k : Int)) (by
            show bx.getD (k : Int).toNat 0 ∈ bx
            rw [List.getD_eq_getElem?_getD, List.getElem?_eq_getElem (by have := HT.out.1; omega)]
            exact List.getElem_mem _)
          have HBK := Aside0.mk hbk
          clear hbk
          obtain ⟨g, cap, eo, gb, _, _⟩ := Kd.R_form HR.out (by have := HT.out.1; omega)
          have eA : Ao = some ⟨g, 0, none⟩ := by injection eo
          subst eA
          clear eo cap
          have GB := Aside0.mk gb
          clear gb
          have hT := HT.out.2
          rw [impl_fewest.loop] at hT
          have HLT := Aside0.mk (show k < bx.length by have := HT.out.1; omega)
          have HGK := Aside0.mk (show k + 1 + gk = bx.length by have := HT.out.1; omega)
          clear HT
          have hs : wrap64 (rd bx (k : Int) + rd l0 F) = rd bx (k : Int) + rd l0 F := by have := HBK.out; have := HX.out; unfold wrap64; omega
          have hb1 := (Kd.R_celln 0 HR.out (k : Int) (by omega) (by have := HLT.out; omega)).1
          rw [Int.toNat_natCast] at hb1
          have HR8 := Aside0.mk (Kd.R_drew HR.out)
          have HB8 := Aside0.mk (below_drew1 HB.out)
          have HK8 := Aside0.mk HK.out.drew
          clear HR HB HK
          try go_wp2_with fail
          refine start_ (n := 10) (S := fun w' => w'.cell? ⟨g, k, none⟩ = some (.int .i64 (rd bx (k : Int))) ∧ w'.cell? (ad.add F.toNat) = some (.int .i64 (rd l0 F))) (ds := []) #[false, false, false, false, false, false, false, false, false, false] (by kernel_rfl) rfl rfl ⟨hb1, hl1⟩ (fun hHeld => ?_)
          generalize wr.drew = wd at HR8 HB8 HK8 hHeld ⊢
          refine pure_ (i := 0) (N := some 26) (v := ?_) (a' := ?_) #[true, false, false, false, false, false, false, false, false, false] rfl rfl (by kernel_rfl) (fun _ _ _ h => h) (Or.inl ⟨by rfl, ?_⟩) ?_ ?_
          rotate_left
          · intro w'
            go_simp
            with_reducible rfl
          rotate_left
          · simp only [Act.put, List.setIfInBounds_toArray, List.set_cons_zero, List.set_cons_succ, i64_w, i32_w]
            rfl
          refine pure_ (i := 1) (N := some 27) (v := ?_) (a' := ?_) #[true, true, false, false, false, false, false, false, false, false] rfl rfl (by kernel_rfl) (fun _ _ _ h => h) (Or.inl ⟨by rfl, ?_⟩) ?_ ?_
          rotate_left
          · intro w'
            go_simp
            with_reducible rfl
          rotate_left
          · simp only [Act.put, List.setIfInBounds_toArray, List.set_cons_zero, List.set_cons_succ, i64_w, i32_w]
            rfl
          refine pure_ (i := 2) (N := some 28) (v := ?_) (a' := ?_) #[true, true, true, false, false, false, false, false, false, false] rfl rfl (by kernel_rfl) (fun _ _ _ h => h) (Or.inl ⟨by rfl, ?_⟩) ?_ ?_
          rotate_left
          · intro w'
            go_simp
            with_reducible rfl
          rotate_left
          · simp only [Act.put, List.setIfInBounds_toArray, List.set_cons_zero, List.set_cons_succ, i64_w, i32_w]
            rfl
          refine pure_ (i := 4) (N := some 30) (v := ?_) (a' := ?_) #[true, true, true, false, true, false, false, false, false, false] rfl rfl (by kernel_rfl) (fun _ _ _ h => h) (Or.inl ⟨by rfl, ?_⟩) ?_ ?_
          rotate_left
          · intro w'
            go_simp
            with_reducible rfl
          rotate_left
          · simp only [Act.put, List.setIfInBounds_toArray, List.set_cons_zero, List.set_cons_succ, i64_w, i32_w]
            rfl
          refine pure_ (i := 5) (N := some 31) (v := ?_) (a' := ?_) #[true, true, true, false, true, true, false, false, false, false] rfl rfl (by kernel_rfl) (fun _ _ _ h => h) (Or.inl ⟨by rfl, ?_⟩) ?_ ?_
          rotate_left
          · intro w'
            go_simp
            with_reducible rfl
          rotate_left
          · simp only [Act.put, List.setIfInBounds_toArray, List.set_cons_zero, List.set_cons_succ, i64_w, i32_w]
            rfl
          refine pure_ (i := 6) (N := some 32) (v := ?_) (a' := ?_) #[true, true, true, false, true, true, true, false, false, false] rfl rfl (by kernel_rfl) (fun _ _ _ h => h) (Or.inl ⟨by rfl, ?_⟩) ?_ ?_
          rotate_left
          · intro w'
            go_simp
            with_reducible rfl
          rotate_left
          · simp only [Act.put, List.setIfInBounds_toArray, List.set_cons_zero, List.set_cons_succ, i64_w, i32_w]
            rfl
          refine take_ (i := 3) (N := some 29) (v := ?_) (a' := ?_) #[true, true, true, true, true, true, true, false, false, false] rfl rfl (by kernel_rfl) (fun _ _ _ h => h) (Or.inl ⟨by rfl, ?_⟩) hHeld ?_ ?_
          rotate_left
          · rintro w' ⟨s0, s1⟩
            go_simp
            with_reducible rfl
          rotate_left
          · simp only [Act.put, List.setIfInBounds_toArray, List.set_cons_zero, List.set_cons_succ, i64_w, i32_w]
            rfl
          refine take_ (i := 7) (N := some 33) (v := ?_) (a' := ?_) #[true, true, true, true, true, true, true, true, false, false] rfl rfl (by kernel_rfl) (fun _ _ _ h => h) (Or.inl ⟨by rfl, ?_⟩) hHeld ?_ ?_
          rotate_left
          · rintro w' ⟨s0, s1⟩
            go_simp
            with_reducible rfl
          rotate_left
          · simp only [Act.put, List.setIfInBounds_toArray, List.set_cons_zero, List.set_cons_succ, i64_w, i32_w]
            rfl
          refine pure_ (i := 8) (N := some 34) (v := ?_) (a' := ?_) #[true, true, true, true, true, true, true, true, true, false] rfl rfl (by kernel_rfl) (fun _ _ _ h => h) (Or.inl ⟨by rfl, ?_⟩) ?_ ?_
          rotate_left
          · intro w'
            go_simp
            with_reducible rfl
          rotate_left
          · simp only [Act.put, List.setIfInBounds_toArray, List.set_cons_zero, List.set_cons_succ, i64_w, i32_w]
            rfl
          refine pure_ (i := 9) (N := some 35) (v := ?_) (a' := ?_) #[true, true, true, true, true, true, true, true, true, true] rfl rfl (by kernel_rfl) (fun _ _ _ h => h) (Or.inl ⟨by rfl, ?_⟩) ?_ ?_
          rotate_left
          · intro w'
            go_simp
            with_reducible rfl
          rotate_left
          · simp only [Act.put, List.setIfInBounds_toArray, List.set_cons_zero, List.set_cons_succ, i64_w, i32_w]
            rfl
          refine done_ (by kernel_rfl) ?_
          by_cases cc : rd bx (k : Int) + rd l0 F ≤ 20
          · rw [if_pos cc] at hT
            have HT := Aside0.mk hT
            clear hT
            have c1 : decide (wrap64 (rd bx (k : Int) + rd l0 F) ≤ 20) = true := by rw [hs]; exact decide_eq_true cc
            have c2 : (wrap64 (rd bx (k : Int) + rd l0 F) ≤ 20) = True := by rw [hs]; exact eq_true cc
            have c3 : decide (rd bx (k : Int) + rd l0 F ≤ 20) = true := decide_eq_true cc
            have CC := Aside0.mk cc
            clear cc hb1 hl1
            have hb1 := (Kd.R_celln 0 (Kd.R_drew HR8.out) (k : Int) (by omega) (by have := HLT.out; omega)).1
            rw [Int.toNat_natCast] at hb1
            obtain ⟨ad', ea', hl1⟩ := Kd.at_int (Kd.C_below HR0.out (below_drew1 HB8.out)) F HF.out.1 (by have := HF.out; omega)
            cases ea'
            have HR9 := Aside0.mk (Kd.R_drew HR8.out)
            have HB9 := Aside0.mk (below_drew1 HB8.out)
            have HK9 := Aside0.mk HK8.out.drew
            have hfz := (Kd.R_celln 0 (Kd.R_drew HR8.out) (k : Int) (by omega) (by have := HLT.out; omega)).2
            rw [Int.toNat_natCast] at hfz
            clear HR8 HB8 HK8
            try go_wp2_with fail
            all_goals try (exfalso; have := CC.out; omega)
            refine start_ (n := 11) (S := fun w' => w'.cell? ⟨g, k, none⟩ = some (.int .i64 (rd bx (k : Int))) ∧ w'.cell? (ad.add F.toNat) = some (.int .i64 (rd l0 F))) (ds := [10]) #[false, false, false, false, false, false, false, false, false, false, false] (by kernel_rfl) rfl rfl ⟨hb1, hl1⟩ (fun hHeld => ?_)
            generalize wd.drew = we at HR9 HB9 HK9 hb1 hl1 hfz hHeld ⊢
            refine pure_ (i := 0) (N := some 36) (v := ?_) (a' := ?_) #[true, false, false, false, false, false, false, false, false, false, false] rfl rfl (by kernel_rfl) (fun _ _ _ h => h) (Or.inl ⟨by rfl, ?_⟩) ?_ ?_
            rotate_left
            · intro w'
              go_simp
              with_reducible rfl
            rotate_left
            · simp only [Act.put, List.setIfInBounds_toArray, List.set_cons_zero, List.set_cons_succ, i64_w, i32_w]
              rfl
            refine pure_ (i := 1) (N := some 37) (v := ?_) (a' := ?_) #[true, true, false, false, false, false, false, false, false, false, false] rfl rfl (by kernel_rfl) (fun _ _ _ h => h) (Or.inl ⟨by rfl, ?_⟩) ?_ ?_
            rotate_left
            · intro w'
              go_simp
              with_reducible rfl
            rotate_left
            · simp only [Act.put, List.setIfInBounds_toArray, List.set_cons_zero, List.set_cons_succ, i64_w, i32_w]
              rfl
            refine pure_ (i := 2) (N := some 38) (v := ?_) (a' := ?_) #[true, true, true, false, false, false, false, false, false, false, false] rfl rfl (by kernel_rfl) (fun _ _ _ h => h) (Or.inl ⟨by rfl, ?_⟩) ?_ ?_
            rotate_left
            · intro w'
              go_simp
              with_reducible rfl
            rotate_left
            · simp only [Act.put, List.setIfInBounds_toArray, List.set_cons_zero, List.set_cons_succ, i64_w, i32_w]
              rfl
            refine pure_ (i := 4) (N := some 40) (v := ?_) (a' := ?_) #[true, true, true, false, true, false, false, false, false, false, false] rfl rfl (by kernel_rfl) (fun _ _ _ h => h) (Or.inl ⟨by rfl, ?_⟩) ?_ ?_
            rotate_left
            · intro w'
              go_simp
              with_reducible rfl
            rotate_left
            · simp only [Act.put, List.setIfInBounds_toArray, List.set_cons_zero, List.set_cons_succ, i64_w, i32_w]
              rfl
            refine pure_ (i := 5) (N := some 41) (v := ?_) (a' := ?_) #[true, true, true, false, true, true, false, false, false, false, false] rfl rfl (by kernel_rfl) (fun _ _ _ h => h) (Or.inl ⟨by rfl, ?_⟩) ?_ ?_
            rotate_left
            · intro w'
              go_simp
              with_reducible rfl
            rotate_left
            · simp only [Act.put, List.setIfInBounds_toArray, List.set_cons_zero, List.set_cons_succ, i64_w, i32_w]
              rfl
            refine pure_ (i := 6) (N := some 42) (v := ?_) (a' := ?_) #[true, true, true, false, true, true, true, false, false, false, false] rfl rfl (by kernel_rfl) (fun _ _ _ h => h) (Or.inl ⟨by rfl, ?_⟩) ?_ ?_
            rotate_left
            · intro w'
              go_simp
              with_reducible rfl
            rotate_left
            · simp only [Act.put, List.setIfInBounds_toArray, List.set_cons_zero, List.set_cons_succ, i64_w, i32_w]
              rfl
            refine take_ (i := 3) (N := some 39) (v := ?_) (a' := ?_) #[true, true, true, true, true, true, true, false, false, false, false] rfl rfl (by kernel_rfl) (fun _ _ _ h => h) (Or.inl ⟨by rfl, ?_⟩) hHeld ?_ ?_
            rotate_left
            · rintro w' ⟨s0, s1⟩
              go_simp
              with_reducible rfl
            rotate_left
            · simp only [Act.put, List.setIfInBounds_toArray, List.set_cons_zero, List.set_cons_succ, i64_w, i32_w]
              rfl
            refine take_ (i := 7) (N := some 43) (v := ?_) (a' := ?_) #[true, true, true, true, true, true, true, true, false, false, false] rfl rfl (by kernel_rfl) (fun _ _ _ h => h) (Or.inl ⟨by rfl, ?_⟩) hHeld ?_ ?_
            rotate_left
            · rintro w' ⟨s0, s1⟩
              go_simp
              with_reducible rfl
            rotate_left
            · simp only [Act.put, List.setIfInBounds_toArray, List.set_cons_zero, List.set_cons_succ, i64_w, i32_w]
              rfl
            refine pure_ (i := 8) (N := some 44) (v := ?_) (a' := ?_) #[true, true, true, true, true, true, true, true, true, false, false] rfl rfl (by kernel_rfl) (fun _ _ _ h => h) (Or.inl ⟨by rfl, ?_⟩) ?_ ?_
            rotate_left
            · intro w'
              go_simp
              with_reducible rfl
            rotate_left
            · simp only [Act.put, List.setIfInBounds_toArray, List.set_cons_zero, List.set_cons_succ, i64_w, i32_w]
              rfl
            refine pure_ (i := 9) (N := some 45) (v := ?_) (a' := ?_) #[true, true, true, true, true, true, true, true, true, true, false] rfl rfl (by kernel_rfl) (fun _ _ _ h => h) (Or.inl ⟨by rfl, ?_⟩) ?_ ?_
            rotate_left
            · intro w'
              go_simp
              with_reducible rfl
            rotate_left
            · simp only [Act.put, List.setIfInBounds_toArray, List.set_cons_zero, List.set_cons_succ, i64_w, i32_w]
              rfl
            refine last_ (i := 10) (N := none) #[true, true, true, true, true, true, true, true, true, true, true] rfl rfl (by kernel_rfl) (by decide) (fun K hK => ?_)
            refine skip_ (w1 := ?_) (by rfl) rfl ?_ ?_
            rotate_left
            · go_simp
              rfl
            refine hK.out _ _ ?_
            clear hK K
            refine done_ (by kernel_rfl) ?_
            have hp := (Kd.R_putg HR9.out (k : Int) (rd bx (k : Int) + rd l0 F)).1
            rw [Int.toNat_natCast] at hp
            obtain ⟨wf, hwf⟩ : ∃ wf, wf = we.setCell ⟨g, k, none⟩ (.int .i64 (rd bx (k : Int) + rd l0 F)) := ⟨_, rfl⟩
            rw [← hwf] at hp ⊢
            have HRf := Aside0.mk hp
            have HBf := Aside0.mk (show Below w0.heap.size w0 wf by rw [hwf]; exact below_set HB9.out GB.out)
            have HKf := Aside0.mk (show Kept w wf (fun k_ => some k_ = (Value.slice (some ⟨g, 0, none⟩) bx.length co).ownBlock) by rw [hwf]; exact Kept.setCell HK9.out (Or.inl (by simp [Value.ownBlock])) _)
            clear hwf hp HR9 HB9 HK9 hb1 hl1 hfz
            have hbx3 : ∀ v ∈ bx.set k (rd bx (k : Int) + rd l0 F), 0 ≤ v ∧ v ≤ 20 := fun v hv => by
              rcases List.mem_or_eq_of_mem_set hv with hv | rfl
              · exact HBX.out v hv
              · have := HBK.out
                have := HX.out
                have := CC.out
                omega
            have HBX3 := Aside0.mk hbx3
            clear hbx3
            obtain ⟨y, hy⟩ : ∃ y, y = impl_fewest.few l0 m (F + 1) (bx.set k (rd bx (k : Int) + rd l0 F)) x3 := ⟨_, rfl⟩
            have HIH := Aside0.mk (IH.out (F + 1) (bx.set k (rd bx (k : Int) + rd l0 F)) x3 (.slice (some ⟨g, 0, none⟩) bx.length co) P0_ wf (by have := HF.out; omega) (by have := HF.out; omega) HBX3.out (by rw [List.length_set]; have := HF.out; omega) HBf.out HRf.out)
            rw [← hy] at HIH
            have HY := Aside0.mk hy.symm
            clear hy
            go_wp2_with (go_at_call 37; refine HIH.out.mono ?_; rintro e w2 ⟨rfl, hR2, hB2, hK2⟩; have HR2 := Aside0.mk hR2; have HB2 := Aside0.mk hB2; have HK2 := Aside0.mk hK2; clear hR2 hB2 hK2)
            all_goals
              have hrd : rd (bx.set k (rd bx (k : Int) + rd l0 F)) (k : Int) = rd bx (k : Int) + rd l0 F := by
                show (bx.set k (rd bx (k : Int) + rd l0 F)).getD (k : Int).toNat 0 = _
                rw [Int.toNat_natCast, List.getD_eq_getElem?_getD, List.getElem?_set_self HLT.out]
                rfl
              have hcl := Kd.R_celln 0 (Kd.R_drew HR2.out) (k : Int) (by omega) (by have := HLT.out; omega)
              rw [Int.toNat_natCast] at hcl
              have hb1 : w2.drew.cell? ⟨g, k, none⟩ = some (.int .i64 (rd bx (k : Int) + rd l0 F)) := by rw [← hrd]; exact hcl.1
              have hfz := hcl.2
              obtain ⟨ad', ea', hl1⟩ := Kd.at_int (Kd.C_below HR0.out (below_drew1 HB2.out)) F HF.out.1 (by have := HF.out; omega)
              cases ea'
              have HR11 := Aside0.mk (Kd.R_drew HR2.out)
              have HB11 := Aside0.mk (below_drew1 HB2.out)
              have HK11 := Aside0.mk (HKf.out.then_ HK2.out (fun k_ hk_ => Or.inl hk_)).drew
              have hs2 : wrap64 (rd bx (k : Int) + rd l0 F - rd l0 F) = rd bx (k : Int) := by have := HBK.out; have := HX.out; unfold wrap64; omega
              have hs3 : wrap64 (rd bx (k : Int)) = rd bx (k : Int) := by have := HBK.out; unfold wrap64; omega
              clear HR2 HB2 HKf HK2 HRf HBf hcl hrd
              refine start_ (n := 11) (S := fun w' => w'.cell? ⟨g, k, none⟩ = some (.int .i64 (rd bx (k : Int) + rd l0 F)) ∧ w'.cell? (ad.add F.toNat) = some (.int .i64 (rd l0 F))) (ds := [10]) #[false, false, false, false, false, false, false, false, false, false, false] (by kernel_rfl) rfl rfl ⟨hb1, hl1⟩ (fun hHeld => ?_)
              generalize w2.drew = wg at HR11 HB11 HK11 hb1 hl1 hfz hHeld ⊢
              refine pure_ (i := 0) (N := some 54) (v := ?_) (a' := ?_) #[true, false, false, false, false, false, false, false, false, false, false] rfl rfl (by kernel_rfl) (fun _ _ _ h => h) (Or.inl ⟨by rfl, ?_⟩) ?_ ?_
              rotate_left
              · intro w'
                go_simp
                with_reducible rfl
              rotate_left
              · simp only [Act.put, List.setIfInBounds_toArray, List.set_cons_zero, List.set_cons_succ, i64_w, i32_w]
                rfl
              refine pure_ (i := 1) (N := some 55) (v := ?_) (a' := ?_) #[true, true, false, false, false, false, false, false, false, false, false] rfl rfl (by kernel_rfl) (fun _ _ _ h => h) (Or.inl ⟨by rfl, ?_⟩) ?_ ?_
              rotate_left
              · intro w'
                go_simp
                with_reducible rfl
              rotate_left
              · simp only [Act.put, List.setIfInBounds_toArray, List.set_cons_zero, List.set_cons_succ, i64_w, i32_w]
                rfl
              refine pure_ (i := 2) (N := some 56) (v := ?_) (a' := ?_) #[true, true, true, false, false, false, false, false, false, false, false] rfl rfl (by kernel_rfl) (fun _ _ _ h => h) (Or.inl ⟨by rfl, ?_⟩) ?_ ?_
              rotate_left
              · intro w'
                go_simp
                with_reducible rfl
              rotate_left
              · simp only [Act.put, List.setIfInBounds_toArray, List.set_cons_zero, List.set_cons_succ, i64_w, i32_w]
                rfl
              refine pure_ (i := 4) (N := some 58) (v := ?_) (a' := ?_) #[true, true, true, false, true, false, false, false, false, false, false] rfl rfl (by kernel_rfl) (fun _ _ _ h => h) (Or.inl ⟨by rfl, ?_⟩) ?_ ?_
              rotate_left
              · intro w'
                go_simp
                with_reducible rfl
              rotate_left
              · simp only [Act.put, List.setIfInBounds_toArray, List.set_cons_zero, List.set_cons_succ, i64_w, i32_w]
                rfl
              refine pure_ (i := 5) (N := some 59) (v := ?_) (a' := ?_) #[true, true, true, false, true, true, false, false, false, false, false] rfl rfl (by kernel_rfl) (fun _ _ _ h => h) (Or.inl ⟨by rfl, ?_⟩) ?_ ?_
              rotate_left
              · intro w'
                go_simp
                with_reducible rfl
              rotate_left
              · simp only [Act.put, List.setIfInBounds_toArray, List.set_cons_zero, List.set_cons_succ, i64_w, i32_w]
                rfl
              refine pure_ (i := 6) (N := some 60) (v := ?_) (a' := ?_) #[true, true, true, false, true, true, true, false, false, false, false] rfl rfl (by kernel_rfl) (fun _ _ _ h => h) (Or.inl ⟨by rfl, ?_⟩) ?_ ?_
              rotate_left
              · intro w'
                go_simp
                with_reducible rfl
              rotate_left
              · simp only [Act.put, List.setIfInBounds_toArray, List.set_cons_zero, List.set_cons_succ, i64_w, i32_w]
                rfl
              refine take_ (i := 3) (N := some 57) (v := ?_) (a' := ?_) #[true, true, true, true, true, true, true, false, false, false, false] rfl rfl (by kernel_rfl) (fun _ _ _ h => h) (Or.inl ⟨by rfl, ?_⟩) hHeld ?_ ?_
              rotate_left
              · rintro w' ⟨s0, s1⟩
                go_simp
                with_reducible rfl
              rotate_left
              · simp only [Act.put, List.setIfInBounds_toArray, List.set_cons_zero, List.set_cons_succ, i64_w, i32_w]
                rfl
              refine take_ (i := 7) (N := some 61) (v := ?_) (a' := ?_) #[true, true, true, true, true, true, true, true, false, false, false] rfl rfl (by kernel_rfl) (fun _ _ _ h => h) (Or.inl ⟨by rfl, ?_⟩) hHeld ?_ ?_
              rotate_left
              · rintro w' ⟨s0, s1⟩
                go_simp
                with_reducible rfl
              rotate_left
              · simp only [Act.put, List.setIfInBounds_toArray, List.set_cons_zero, List.set_cons_succ, i64_w, i32_w]
                rfl
              refine pure_ (i := 8) (N := some 62) (v := ?_) (a' := ?_) #[true, true, true, true, true, true, true, true, true, false, false] rfl rfl (by kernel_rfl) (fun _ _ _ h => h) (Or.inl ⟨by rfl, ?_⟩) ?_ ?_
              rotate_left
              · intro w'
                go_simp
                with_reducible rfl
              rotate_left
              · simp only [Act.put, List.setIfInBounds_toArray, List.set_cons_zero, List.set_cons_succ, i64_w, i32_w]
                rfl
              refine pure_ (i := 9) (N := some 63) (v := ?_) (a' := ?_) #[true, true, true, true, true, true, true, true, true, true, false] rfl rfl (by kernel_rfl) (fun _ _ _ h => h) (Or.inl ⟨by rfl, ?_⟩) ?_ ?_
              rotate_left
              · intro w'
                go_simp
                with_reducible rfl
              rotate_left
              · simp only [Act.put, List.setIfInBounds_toArray, List.set_cons_zero, List.set_cons_succ, i64_w, i32_w]
                rfl
              refine last_ (i := 10) (N := none) #[true, true, true, true, true, true, true, true, true, true, true] rfl rfl (by kernel_rfl) (by decide) (fun K hK => ?_)
              refine skip_ (w1 := ?_) (by rfl) rfl ?_ ?_
              rotate_left
              · go_simp
                rfl
              refine hK.out _ _ ?_
              clear hK K
              refine done_ (by kernel_rfl) ?_
              have hp := (Kd.R_putg HR11.out (k : Int) (rd bx (k : Int))).1
              rw [Int.toNat_natCast, List.set_set, show bx.set k (rd bx (k : Int)) = bx from by
                show bx.set k (bx.getD (k : Int).toNat 0) = bx
                rw [Int.toNat_natCast, List.getD_eq_getElem?_getD, List.getElem?_eq_getElem HLT.out]
                exact List.set_getElem_self _] at hp
              have HP := Aside0.mk hp
              clear hp
              try go_wp2_with fail
              go_roundg gk
              case measure => omega
              case rel =>
                refine ⟨k + 1, _, rfl, by first | rfl | (congr 1; have := HLT.out; have := HF.out; unfold wrap64; omega), ⟨HGK.out, ?_⟩, HP, ⟨below_set HB11.out GB.out⟩, ⟨Kept.setCell HK11.out (Or.inl (by simp [Value.ownBlock])) _⟩⟩
                have h := HT.out
                rw [Int.toNat_natCast, HY.out] at h
                refine (congrArg (impl_fewest.loop (impl_fewest.few l0 m (F + 1)) (rd l0 F) bx gk ((k : Int) + 1)) (?_ : _ = mn x3 y)).trans h
                unfold mn
                split <;> first | rfl | omega
          · rw [if_neg cc] at hT
            have HT := Aside0.mk hT
            clear hT
            have c1 : decide (wrap64 (rd bx (k : Int) + rd l0 F) ≤ 20) = false := by rw [hs]; exact decide_eq_false cc
            have c2 : (wrap64 (rd bx (k : Int) + rd l0 F) ≤ 20) = False := by rw [hs]; exact eq_false cc
            have c3 : decide (rd bx (k : Int) + rd l0 F ≤ 20) = false := decide_eq_false cc
            have c4 : (rd bx (k : Int) + rd l0 F ≤ 20) = False := eq_false cc
            have CC := Aside0.mk cc
            clear cc
            go_wp2_with fail
            all_goals try (exfalso; have := CC.out; omega)
            go_roundg gk
            case measure => omega
            case rel => exact ⟨k + 1, x3, rfl, by first | rfl | (congr 1; have := HLT.out; have := HF.out; unfold wrap64; omega), ⟨HGK.out, HT.out⟩, HR8, HB8, HK8⟩

/-! ### impl_FewestBoxes: function 17 -/
def impl_FewestBoxes.f (l0 : List Int) : Option (Int × Bool) := (impl_GoodItems.f l0).bind fun t => if t = true then (if l0.length ≤ 9 ∧ (l0.all fun v => decide (1 ≤ v) && decide (v ≤ 20)) = true then some (impl_fewest.few l0 l0.length 0 [] l0.length, true) else none) else some (0, false)
set_option maxHeartbeats 4000000 in
theorem impl_FewestBoxes.calls (A0 : Option Addr) (c0 : Nat) (l0 : List Int) (r1 : Int) (r2 : Bool) (w : World) (hr0 : Kd.C (Kd.int .i64) w A0 l0.length l0) (hc0 : l0.length ≤ c0) (h : impl_FewestBoxes.f l0 = some (r1, r2)) :
    Calls Try.prog 17 #[.slice A0 l0.length c0] w fun e w' => e = .returned (.tuple #[.int .i64 r1, .bool r2]) ∧ Below w.heap.size w w' := by
  unfold impl_FewestBoxes.f at h
  replace h := Option.bind_eq_some_iff.mp h
  obtain ⟨t, ht, h⟩ := h
  have HG := Aside0.mk (impl_GoodItems.calls A0 c0 l0 t w hr0 hc0 ht)
  clear ht
  cases t with
  | false =>
    simp only [Bool.false_eq_true, if_false, Option.some.injEq, Prod.mk.injEq] at h
    obtain ⟨rfl, rfl⟩ := h
    clear hr0 hc0
    go_enter Try.func17, Try.ntmps17
    go_wp2_with (go_at_call 12; refine HG.out.mono ?_; rintro e w' ⟨rfl, hb⟩; have HB := Aside0.mk hb; clear hb)
    go_ret2
    exact ⟨rfl, by first | exact HB.out | exact HB.out.below⟩
  | true =>
    rw [if_pos rfl] at h
    split at h
    case isFalse => cases h
    case isTrue hh =>
    simp only [Option.some.injEq, Prod.mk.injEq] at h
    obtain ⟨rfl, rfl⟩ := h
    have hit : ∀ x ∈ l0, 1 ≤ x ∧ x ≤ 20 := fun x hx => by
      have := List.all_eq_true.1 hh.2 x hx
      simpa using this
    have HF := Aside0.mk (fun W (hb : Below w.heap.size w W) => impl_fewest.run A0 c0 l0 w hr0 hc0 hit hh.1 l0.length 0 [] l0.length (.slice none 0 0) (fun _ => True) W (Int.le_refl 0) (by omega) (by simp) (by rw [List.length_nil]; omega) hb (Kd.R_nil _ _ _ _ _))
    clear hr0 hc0 hh hit
    go_enter Try.func17, Try.ntmps17
    go_wp2_with (first | (go_at_call 12; refine HG.out.mono ?_; rintro e w' ⟨rfl, hb⟩; have HB := Aside0.mk (show Below w.heap.size w w' by first | exact hb | exact hb.below); clear hb) | (go_at_call 37; refine (HF.out _ (by repeat (first | exact HB.out | apply pw_below_drewN | apply below_drew1))).mono ?_; rintro e w2 ⟨rfl, _, hb, _⟩; have HB2 := Aside0.mk hb; clear hb))
    go_ret2
    exact ⟨rfl, HB2.out⟩

end Go.Proofs.Ytojoglgjfocgiaa.GLFewestBoxes
