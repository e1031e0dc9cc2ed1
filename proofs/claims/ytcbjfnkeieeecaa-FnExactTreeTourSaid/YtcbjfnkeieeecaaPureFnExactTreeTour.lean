/- FnExactTreeTour: at every list of spots the program's TreeTour answers as the reference's, leaves its argument as it was, and its answer is memory of its own. -/
import Derived.Test.YtcbjfnkeieeecaaGLTreeTour0
import Derived.Test.YtcbjfnkeieeecaaGLTreeTour1
import Derived.Test.YtcbjfnkeieeecaaGLTreeTour6
import Derived.Test.YtcbjfnkeieeecaaGLTreeTour9
import Derived.Test.YtcbjfnkeieeecaaComTreeTour
namespace Go.Proofs.Ytcbjfnkeieeecaa.Pure
open Go.RowKit Go.Proofs.Ytcbjfnkeieeecaa.GLTreeTour Go.Proofs.YtcbjfnkeieeecaaW.PrintWords Go.Proofs.YtcbjfnkeieeecaaW.PrintLast Go.Proofs.YtcbjfnkeieeecaaW.PrintMore Go.Proofs.YtcbjfnkeieeecaaW.PrintOwn
set_option linter.unusedVariables false
set_option linter.unusedSimpArgs false
theorem same_TreeTour (L : List S26) (hl : L.length ≤ 1048576) : ∃ r : List Int × Int × Bool, r.1.length ≤ 10000000 ∧ Ev (fun k => spec_TreeTour.f k L) r ∧ Ev (fun k => impl_TreeTour.f k L) r := by
  unfold spec_TreeTour.f impl_TreeTour.f
  by_cases h : goodStops L = true
  · obtain ⟨r, ⟨inn, hin, hG⟩, hs, hi⟩ := trees L h
    have hg := h
    unfold goodStops at hg
    rw [Bool.and_eq_true, Bool.and_eq_true, decide_eq_true_eq, decide_eq_true_eq, List.all_eq_true] at hg
    obtain ⟨⟨h1, h7⟩, hp⟩ := hg
    have hu : r.1.length ≤ 7 := by rw [hG.1]; omega
    have hwl := walkF_len r.1 hu 7 0
    rw [show (8 : Nat) ^ 7 = 2097152 by decide] at hwl
    obtain ⟨hw1, hw2⟩ := walks hG (by omega) 7 0 (by omega) (by omega) (fun c _ _ => by omega)
    have hw1 := hw1 [] (by simp; omega)
    rw [List.nil_append] at hw1
    have hwi := walkF_in r.1 7 0 (by omega) (by rw [hG.1]; omega)
    rw [hG.1] at hwi
    obtain ⟨c, hc1, hc2⟩ := costs L hp (walkF r.1 7 0) hwi (by omega)
    refine ⟨(walkF r.1 7 0, c, true), ?_, Ev.bind (ev_GoodStops L (by omega)) (Ev.ite_pos h (Ev.bind hs (Ev.bind hw1 (Ev.bind hc1 (Ev.now _))))), Ev.bindc (implGoodStops L) (Ev.ite_pos h (Ev.bind hi (Ev.bind hw2 (Ev.bind hc2 (Ev.now _)))))⟩
    show (walkF r.1 7 0).length ≤ _
    omega
  · exact ⟨([], 0, false), by simp, Ev.bind (ev_GoodStops L (by omega)) (Ev.ite_neg h (Ev.now _)), Ev.bindc (implGoodStops L) (Ev.ite_neg h (Ev.now _))⟩
theorem FnExactTreeTour : laws_FnExactTreeTour.Pure := by
  intro l0 ⟨hm, hw⟩
  apply Ev.rounds
  unfold laws_FnExactTreeTour.f
  unfold maxLen at hm
  have hz : wrap64 (1048576 - (l0.length : Int)) = 1048576 - (l0.length : Int) := by unfold wrap64; omega
  unfold laws_szSpotS.f
  rw [hz]
  by_cases h : 1048576 - (l0.length : Int) < 0
  · rw [if_pos h]
    exact Ev.bindc rfl (Ev.ite_pos (by decide) (Ev.now _))
  rw [if_neg h]
  refine Ev.bindc rfl (Ev.ite_neg h ?_)
  have ht := ev_toSpotS l0 (by omega)
  have hl : (l0.map fun s => (⟨s.f0, s.f1⟩ : S26)).length ≤ 1048576 := by simp; omega
  generalize (l0.map fun s => (⟨s.f0, s.f1⟩ : S26)) = L at ht hl
  obtain ⟨⟨g, n, v⟩, hgl, hs, hi⟩ := same_TreeTour L hl
  replace hgl : g.length ≤ 10000000 := hgl
  have hgg := ev_eqIntS g g (by omega)
  have hll := ev_eqSpotS L (by omega)
  obtain ⟨L', hmL⟩ := ev_markSpotS L 1 hl (by omega) (by omega)
  have hmg := ev_markIntS g 1 (by omega) (by omega)
  have hhg := ev_heldIntS 1 g.length (by omega) (by omega)
  refine Ev.bind ht (Ev.bind hs (Ev.bind ht (Ev.bind hi (Ev.bind hgg (Ev.ite_pos (by simp) (Ev.ite_pos (by simp) ?_))))))
  refine Ev.round (fun k => by simp only [laws_FnExactTreeTour.j0]; rw [if_neg (by simp)]) ?_
  refine Ev.bind ht (Ev.bind hll (Ev.ite_pos rfl (Ev.bind hmL (Ev.ite_neg (by simp; omega) (Ev.bind hgg (Ev.ite_pos (by simp) (Ev.ite_pos (by simp) ?_)))))))
  refine Ev.round (fun k => by simp only [laws_FnExactTreeTour.j1]; rw [if_neg (by simp)]) ?_
  refine Ev.bind hmg (Ev.bind hhg (Ev.ite_neg (by omega) (Ev.ite_pos rfl (Ev.bind ht (Ev.bind hi (Ev.bind hgg (Ev.ite_pos (by simp) (Ev.ite_pos (by simp) ?_))))))))
  refine Ev.round (fun k => by simp only [laws_FnExactTreeTour.j2]; rw [if_neg (by simp)]) ?_
  exact Ev.bind hhg (Ev.ite_neg (by omega) (Ev.ite_pos rfl (Ev.now _)))

end Go.Proofs.Ytcbjfnkeieeecaa.Pure
