/- FnExactFitCost: at all costs and fits the program's FitCost answers as the reference's, and leaves its arguments as they were. -/
import Derived.Test.YtdlblaihleojmaaGLFitCost0
import Derived.Test.YtdlblaihleojmaaGLFitCost2
import Derived.Test.YtdlblaihleojmaaGLFitCost3
import Derived.Test.YtdlblaihleojmaaGLFitCost4
import Derived.Test.YtdlblaihleojmaaComFitCost
namespace Go.Proofs.Ytdlblaihleojmaa.Pure
open Go.RowKit Go.Proofs.Ytdlblaihleojmaa.GLFitCost Go.Proofs.YtdlblaihleojmaaW.PrintWords Go.Proofs.YtdlblaihleojmaaW.PrintLast Go.Proofs.YtdlblaihleojmaaW.PrintMore Go.Proofs.YtdlblaihleojmaaW.PrintOwn
set_option linter.unusedVariables false
set_option linter.unusedSimpArgs false
theorem fit_l (C : List (List Int)) (f : List Int) (hC : ∀ x ∈ C, x.length = C.length) (hf : ∀ x ∈ f, 0 ≤ x ∧ x < (C.length : Int)) (hfl : f.length ≤ C.length) (hn : C.length ≤ 1048576) : ∀ (m j : Nat) (s : Int), j + m = f.length →
    ∃ r, Ev (fun k => spec_FitCost.l0 k C s f (f.length : Int) (j : Int)) r ∧ Ev (fun k => impl_FitCost.l0 k C s f (f.length : Int) (j : Int)) r
  | 0, j, s, hj => by
    refine ⟨(s, true), Ev.round (f := fun _ => some (s, true)) (fun k => ?_) (Ev.now _), Ev.round (f := fun _ => some (s, true)) (fun k => ?_) (Ev.now _)⟩
    · simp only [spec_FitCost.l0]
      rw [if_neg (by omega)]
    · simp only [impl_FitCost.l0]
      rw [if_neg (by omega)]
  | m + 1, j, s, hj => by
    have hw : wrap64 ((j : Int) + 1) = ((j + 1 : Nat) : Int) := by unfold wrap64; omega
    have ha := hf (rd f (j : Int)) (getD_mem 0 (by omega))
    have hr := hC (rd_L1 C (j : Int)) (getD_mem [] (by omega))
    obtain ⟨r, h1, h2⟩ := fit_l C f hC hf hfl hn m (j + 1) (wrap64 (s + rd (rd_L1 C (j : Int)) (rd f (j : Int)))) (by omega)
    refine ⟨r, ?_, ?_⟩
    · refine Ev.round (fun k => by simp only [spec_FitCost.l0]; rw [if_pos (show (j : Int) < (f.length : Int) by omega), hw]) ?_
      exact Ev.ite_pos (by omega) (Ev.ite_pos (by omega) (Ev.ite_pos (by omega) (Ev.ite_pos ha.1 (Ev.ite_pos (by omega) h1))))
    · refine Ev.round (fun k => by simp only [impl_FitCost.l0]; rw [if_pos (show (j : Int) < (f.length : Int) by omega), hw]) ?_
      exact Ev.ite_pos (by omega) (Ev.ite_pos (by omega) (Ev.ite_pos (by omega) (Ev.ite_pos ha.1 (Ev.ite_pos (by omega) h2))))
theorem same_FitCost (C : List (List Int)) (f : List Int) (hn : C.length ≤ 1048576) (hx : ∀ x ∈ C, x.length ≤ 9223372036854775807) (hf : f.length ≤ 1048576) : ∃ r : Int × Bool, Ev (fun k => spec_FitCost.f k C f) r ∧ Ev (fun k => impl_FitCost.f k C f) r := by
  unfold spec_FitCost.f impl_FitCost.f
  by_cases h : costsB C = true
  · by_cases h2 : ordB f (C.length : Int) = true
    · obtain ⟨hlen, hin⟩ := ordB_in h2
      have hc := costsB_iff h
      obtain ⟨r, h3, h4⟩ := fit_l C f (fun x hx => (hc.2 x hx).1) hin (by omega) hn f.length 0 0 (by omega)
      refine ⟨r, Ev.bind (ev_GoodCosts C (by omega) hx) (Ev.ite_pos h (Ev.bind (ev_l7Order f _ (by omega)) ?_)), Ev.bindc (goodCosts_eq C) (Ev.ite_pos h (Ev.bindc (implOrder f _ (by omega)) ?_))⟩
      · rw [h2]
        exact Ev.round (fun k => by simp only [spec_FitCost.j0]; rw [if_neg (by decide)]; rfl) h3
      · rw [h2]
        exact Ev.round (fun k => by simp only [impl_FitCost.j0]; rw [if_neg (by decide)]; rfl) h4
    · refine ⟨(0, false), Ev.bind (ev_GoodCosts C (by omega) hx) (Ev.ite_pos h (Ev.bind (ev_l7Order f _ (by omega)) ?_)), Ev.bindc (goodCosts_eq C) (Ev.ite_pos h (Ev.bindc (implOrder f _ (by omega)) ?_))⟩
      · rw [Bool.eq_false_iff.2 h2]
        exact Ev.round (f := fun _ => some (0, false)) (fun k => by simp only [spec_FitCost.j0]; rw [if_pos (by decide)]) (Ev.now _)
      · rw [Bool.eq_false_iff.2 h2]
        exact Ev.round (f := fun _ => some (0, false)) (fun k => by simp only [impl_FitCost.j0]; rw [if_pos (by decide)]) (Ev.now _)
  · refine ⟨(0, false), Ev.bind (ev_GoodCosts C (by omega) hx) (Ev.ite_neg h ?_), Ev.bindc (goodCosts_eq C) (Ev.ite_neg h ?_)⟩
    · exact Ev.round (f := fun _ => some (0, false)) (fun k => by simp only [spec_FitCost.j0]; rw [if_pos (by decide)]) (Ev.now _)
    · exact Ev.round (f := fun _ => some (0, false)) (fun k => by simp only [impl_FitCost.j0]; rw [if_pos (by decide)]) (Ev.now _)
theorem FnExactFitCost : laws_FnExactFitCost.Pure := by
  intro l o ⟨hm, hw⟩ ⟨hm2, hw2⟩
  have hx : ∀ x ∈ l, x.length ≤ 9223372036854775807 := fun x hx => by have := (hw x hx).1; unfold maxLen at this; omega
  unfold maxLen at hm hm2
  apply Ev.rounds
  unfold laws_FnExactFitCost.f
  by_cases h0 : (o.length : Int) > 1048576
  · exact Ev.ite_pos h0 (Ev.now _)
  refine Ev.ite_neg h0 (Ev.bind (ev_szIntSS l 1048576 (by omega)) ?_)
  by_cases h : szRows l 1048576 < 0
  · exact Ev.ite_pos h (Ev.now _)
  refine Ev.ite_neg h ?_
  obtain ⟨h1, h2, h3⟩ := szRows_ok (by omega) (by omega) (by omega) hx h
  have ht := ev_toIntSS l (by omega) (fun x hx => by have := h2 x hx; omega)
  have hto := ev_toIntS o (by omega)
  obtain ⟨⟨c, v⟩, hs, hi⟩ := same_FitCost l o (by omega) hx (by omega)
  have hll := ev_eqIntSS l l (by omega) hx
  have hoo := ev_eqIntS o o (by omega)
  refine Ev.bind ht (Ev.bind hto (Ev.bind hs (Ev.bind ht (Ev.bind hto (Ev.bind hi (Ev.ite_pos rfl ?_))))))
  refine Ev.round (fun k => by simp only [laws_FnExactFitCost.j0]; rw [if_neg (by simp)]) ?_
  exact Ev.bind ht (Ev.bind hll (Ev.ite_pos (by simp) (Ev.bind hto (Ev.bind hoo (Ev.ite_pos (by simp) (Ev.now _))))))

end Go.Proofs.Ytdlblaihleojmaa.Pure
