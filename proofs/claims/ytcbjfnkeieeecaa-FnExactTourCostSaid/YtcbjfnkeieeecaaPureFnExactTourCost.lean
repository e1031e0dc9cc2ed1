/- FnExactTourCost: at every list of spots and order the program's TourCost answers as the reference's, and leaves its arguments as they were. -/
import Derived.Test.YtcbjfnkeieeecaaGLTourCost0
import Derived.Test.YtcbjfnkeieeecaaGLTourCost1
import Derived.Test.YtcbjfnkeieeecaaGLTourCost2
import Derived.Test.YtcbjfnkeieeecaaGLTourCost4
import Derived.Test.YtcbjfnkeieeecaaComTourCost
namespace Go.Proofs.Ytcbjfnkeieeecaa.Pure
open Go.RowKit Go.Proofs.Ytcbjfnkeieeecaa.GLTourCost Go.Proofs.YtcbjfnkeieeecaaW.PrintWords Go.Proofs.YtcbjfnkeieeecaaW.PrintLast Go.Proofs.YtcbjfnkeieeecaaW.PrintMore Go.Proofs.YtcbjfnkeieeecaaW.PrintOwn
set_option linter.unusedVariables false
set_option linter.unusedSimpArgs false
theorem same_TourCost (L : List S26) (o : List Int) (hl : L.length ≤ 1048576) (ho : o.length ≤ 1048576) : ∃ r : Int × Bool, Ev (fun k => spec_TourCost.f k L o) r ∧ Ev (fun k => impl_TourCost.f k L o) r := by
  unfold spec_TourCost.f impl_TourCost.f
  by_cases h : goodStops L = true
  · by_cases h2 : ordB o (L.length : Int) = true
    · obtain ⟨hlen, hin⟩ := ordB_in h2
      have hg := h
      unfold goodStops at hg
      rw [Bool.and_eq_true, Bool.and_eq_true, decide_eq_true_eq, decide_eq_true_eq, List.all_eq_true] at hg
      obtain ⟨c, hc1, hc2⟩ := costs L hg.2 o hin (by omega)
      exact ⟨(c, true), Ev.bind (ev_GoodStops L (by omega)) (Ev.ite_pos h (Ev.bind (ev_l7Order o _ (by omega)) (Ev.ite_pos h2 (Ev.bind hc1 (Ev.now _))))), Ev.bindc (implGoodStops L) (Ev.ite_pos h (Ev.bindc (implOrder o _ (by omega)) (Ev.ite_pos h2 (Ev.bind hc2 (Ev.now _)))))⟩
    · exact ⟨(0, false), Ev.bind (ev_GoodStops L (by omega)) (Ev.ite_pos h (Ev.bind (ev_l7Order o _ (by omega)) (Ev.ite_neg h2 (Ev.now _)))), Ev.bindc (implGoodStops L) (Ev.ite_pos h (Ev.bindc (implOrder o _ (by omega)) (Ev.ite_neg h2 (Ev.now _))))⟩
  · exact ⟨(0, false), Ev.bind (ev_GoodStops L (by omega)) (Ev.ite_neg h (Ev.now _)), Ev.bindc (implGoodStops L) (Ev.ite_neg h (Ev.now _))⟩
theorem FnExactTourCost : laws_FnExactTourCost.Pure := by
  intro l0 o ⟨hm, hw⟩ ⟨hm2, hw2⟩
  apply Ev.rounds
  unfold laws_FnExactTourCost.f
  unfold maxLen at hm hm2
  by_cases h0 : (o.length : Int) > 1048576
  · exact Ev.ite_pos h0 (Ev.now _)
  refine Ev.ite_neg h0 ?_
  have hz : wrap64 (1048576 - (l0.length : Int)) = 1048576 - (l0.length : Int) := by unfold wrap64; omega
  unfold laws_szSpotS.f
  rw [hz]
  by_cases h : 1048576 - (l0.length : Int) < 0
  · rw [if_pos h]
    exact Ev.bindc rfl (Ev.ite_pos (by decide) (Ev.now _))
  rw [if_neg h]
  refine Ev.bindc rfl (Ev.ite_neg h ?_)
  have ht := ev_toSpotS l0 (by omega)
  have hto := ev_toIntS o (by omega)
  have hl : (l0.map fun s => (⟨s.f0, s.f1⟩ : S26)).length ≤ 1048576 := by simp; omega
  generalize (l0.map fun s => (⟨s.f0, s.f1⟩ : S26)) = L at ht hl
  obtain ⟨⟨c, v⟩, hs, hi⟩ := same_TourCost L o hl (by omega)
  have hll := ev_eqSpotS L (by omega)
  have hoo := ev_eqIntS o o (by omega)
  refine Ev.bind ht (Ev.bind hto (Ev.bind hs (Ev.bind ht (Ev.bind hto (Ev.bind hi (Ev.ite_pos rfl ?_))))))
  refine Ev.round (fun k => by simp only [laws_FnExactTourCost.j0]; rw [if_neg (by simp)]) ?_
  exact Ev.bind ht (Ev.bind hll (Ev.ite_pos rfl (Ev.bind hto (Ev.bind hoo (Ev.ite_pos (by simp) (Ev.now _))))))

end Go.Proofs.Ytcbjfnkeieeecaa.Pure
