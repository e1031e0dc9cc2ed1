/- FnExactBestTour: at every list of spots the program's BestTour answers as the reference's, leaves its argument as it was, and its answer is memory of its own. -/
import Derived.Test.YtcbjfnkeieeecaaGLBestTour0
import Derived.Test.YtcbjfnkeieeecaaGLBestTour1
import Derived.Test.YtcbjfnkeieeecaaGLBestTour3
import Derived.Test.YtcbjfnkeieeecaaGLBestTour4
import Derived.Test.YtcbjfnkeieeecaaGLBestTour6
import Derived.Test.YtcbjfnkeieeecaaComBestTour
namespace Go.Proofs.Ytcbjfnkeieeecaa.Pure
open Go.RowKit Go.Proofs.Ytcbjfnkeieeecaa.GLBestTour Go.Proofs.YtcbjfnkeieeecaaW.PrintWords Go.Proofs.YtcbjfnkeieeecaaW.PrintLast Go.Proofs.YtcbjfnkeieeecaaW.PrintMore Go.Proofs.YtcbjfnkeieeecaaW.PrintOwn
set_option linter.unusedVariables false
set_option linter.unusedSimpArgs false
theorem same_BestTour (L : List S26) (hl : L.length ≤ 1048576) : ∃ r : List Int × Int × Bool, r.1.length ≤ 10000000 ∧ Ev (fun k => spec_BestTour.f k L) r ∧ Ev (fun k => impl_BestTour.f k L) r := by
  unfold spec_BestTour.f impl_BestTour.f
  by_cases h : goodStops L = true
  · have hg := h
    unfold goodStops at hg
    rw [Bool.and_eq_true, Bool.and_eq_true, decide_eq_true_eq, decide_eq_true_eq, List.all_eq_true] at hg
    obtain ⟨⟨h1, h7⟩, hp⟩ := hg
    have h7' : L.length ≤ 7 := by omega
    obtain ⟨C, hC⟩ := cost_is L hp h7'
    have hv0 : ∀ x ∈ ([0] : List Int), 0 ≤ x ∧ x < (L.length : Int) := fun x hx => by rw [List.mem_singleton.1 hx]; omega
    have hlen : ([0] : List Int).length + (L.length - 1) = L.length := by simp; omega
    have e1 := ev_best L h7' C hC (L.length - 1) [0] (by simp) hlen hv0
    obtain ⟨c', e2, e3, e4⟩ := ev_visit L h7' C hC (L.length - 1) [0] (by simp) hlen hv0 [] 0 (fun e => absurd rfl e) ⟨by simp, by simp⟩
    rw [comb_nil] at e2 e3 e4
    have hc := e3 (best_ne C L.length (L.length - 1) [0] (by simp) hlen)
    subst hc
    refine ⟨(bestF C L.length (L.length - 1) [0], C (bestF C L.length (L.length - 1) [0]), true), by have := e4.1; show (bestF C L.length (L.length - 1) [0]).length ≤ 10000000; omega, Ev.bind (ev_GoodStops L (by omega)) (Ev.ite_pos h (Ev.bind e1 (Ev.bind (hC _ e4).1 (Ev.now _)))), Ev.bindc (implGoodStops L) (Ev.ite_pos h (Ev.ite_pos ⟨by omega, h7'⟩ (Ev.bind e2 (Ev.now _))))⟩
  · exact ⟨([], 0, false), by simp, Ev.bind (ev_GoodStops L (by omega)) (Ev.ite_neg h (Ev.now _)), Ev.bindc (implGoodStops L) (Ev.ite_neg h (Ev.now _))⟩
theorem FnExactBestTour : laws_FnExactBestTour.Pure := by
  intro l0 ⟨hm, hw⟩
  apply Ev.rounds
  unfold laws_FnExactBestTour.f
  unfold maxLen at hm
  have hz : wrap64 (1048576 - (l0.length : Int)) = 1048576 - (l0.length : Int) := by unfold wrap64; omega
  unfold laws_szSpotS.f
  rw [hz]
  by_cases h : 1048576 - (l0.length : Int) < 0
  · rw [if_pos h]
    exact Ev.bindc rfl (Ev.ite_pos (by decide) (Ev.now _))
  rw [if_neg h]
  refine Ev.bindc rfl (Ev.ite_neg h ?_)
  have ht := ev_toSpotS l0 (by omega)
  have hl : (l0.map fun s => (⟨s.f0, s.f1⟩ : S26)).length ≤ 1048576 := by simp; omega
  generalize (l0.map fun s => (⟨s.f0, s.f1⟩ : S26)) = L at ht hl
  obtain ⟨⟨g, n, v⟩, hgl, hs, hi⟩ := same_BestTour L hl
  replace hgl : g.length ≤ 10000000 := hgl
  have hgg := ev_eqIntS g g (by omega)
  have hll := ev_eqSpotS L (by omega)
  obtain ⟨L', hmL⟩ := ev_markSpotS L 1 hl (by omega) (by omega)
  have hmg := ev_markIntS g 1 (by omega) (by omega)
  have hhg := ev_heldIntS 1 g.length (by omega) (by omega)
  refine Ev.bind ht (Ev.bind hs (Ev.bind ht (Ev.bind hi (Ev.bind hgg (Ev.ite_pos (by simp) (Ev.ite_pos (by simp) ?_))))))
  refine Ev.round (fun k => by simp only [laws_FnExactBestTour.j0]; rw [if_neg (by simp)]) ?_
  refine Ev.bind ht (Ev.bind hll (Ev.ite_pos rfl (Ev.bind hmL (Ev.ite_neg (by simp; omega) (Ev.bind hgg (Ev.ite_pos (by simp) (Ev.ite_pos (by simp) ?_)))))))
  refine Ev.round (fun k => by simp only [laws_FnExactBestTour.j1]; rw [if_neg (by simp)]) ?_
  refine Ev.bind hmg (Ev.bind hhg (Ev.ite_neg (by omega) (Ev.ite_pos rfl (Ev.bind ht (Ev.bind hi (Ev.bind hgg (Ev.ite_pos (by simp) (Ev.ite_pos (by simp) ?_))))))))
  refine Ev.round (fun k => by simp only [laws_FnExactBestTour.j2]; rw [if_neg (by simp)]) ?_
  exact Ev.bind hhg (Ev.ite_neg (by omega) (Ev.ite_pos rfl (Ev.now _)))

end Go.Proofs.Ytcbjfnkeieeecaa.Pure
