/- FnExactTreeOf: at every list of spots the program's TreeOf answers as the reference's, leaves its argument as it was, and its answer is memory of its own. -/
import Derived.Test.YtcbjfnkeieeecaaGLTreeOf0
import Derived.Test.YtcbjfnkeieeecaaGLTreeOf1
import Derived.Test.YtcbjfnkeieeecaaGLTreeOf5
import Derived.Test.YtcbjfnkeieeecaaGLTreeOf7
import Derived.Test.YtcbjfnkeieeecaaComTreeOf
namespace Go.Proofs.Ytcbjfnkeieeecaa.Pure
open Go.RowKit Go.Proofs.Ytcbjfnkeieeecaa.GLTreeOf Go.Proofs.YtcbjfnkeieeecaaW.PrintWords Go.Proofs.YtcbjfnkeieeecaaW.PrintLast Go.Proofs.YtcbjfnkeieeecaaW.PrintMore Go.Proofs.YtcbjfnkeieeecaaW.PrintOwn
set_option linter.unusedVariables false
set_option linter.unusedSimpArgs false
theorem same_TreeOf (L : List S26) (hl : L.length ≤ 1048576) : ∃ r : List Int × Int × Bool, r.1.length ≤ 1048576 ∧ Ev (fun k => spec_TreeOf.f k L) r ∧ Ev (fun k => impl_TreeOf.f k L) r := by
  unfold spec_TreeOf.f impl_TreeOf.f
  by_cases h : goodStops L = true
  · obtain ⟨r, ⟨inn, _, hG⟩, hs, hi⟩ := trees L h
    refine ⟨(r.1, r.2, true), ?_, Ev.bind (ev_GoodStops L (by omega)) (Ev.ite_pos h (Ev.bind hs (Ev.now _))), Ev.bindc (implGoodStops L) (Ev.ite_pos h (Ev.bind hi (Ev.now _)))⟩
    show r.1.length ≤ _
    rw [hG.1]
    exact hl
  · exact ⟨([], 0, false), by simp, Ev.bind (ev_GoodStops L (by omega)) (Ev.ite_neg h (Ev.now _)), Ev.bindc (implGoodStops L) (Ev.ite_neg h (Ev.now _))⟩
theorem FnExactTreeOf : laws_FnExactTreeOf.Pure := by
  intro l0 ⟨hm, hw⟩
  apply Ev.rounds
  unfold laws_FnExactTreeOf.f
  unfold maxLen at hm
  have hz : wrap64 (1048576 - (l0.length : Int)) = 1048576 - (l0.length : Int) := by unfold wrap64; omega
  unfold laws_szSpotS.f
  rw [hz]
  by_cases h : 1048576 - (l0.length : Int) < 0
  · rw [if_pos h]
    exact Ev.bindc rfl (Ev.ite_pos (by decide) (Ev.now _))
  rw [if_neg h]
  refine Ev.bindc rfl (Ev.ite_neg h ?_)
  have ht := ev_toSpotS l0 (by omega)
  have hl : (l0.map fun s => (⟨s.f0, s.f1⟩ : S26)).length ≤ 1048576 := by simp; omega
  generalize (l0.map fun s => (⟨s.f0, s.f1⟩ : S26)) = L at ht hl
  obtain ⟨⟨g, n, v⟩, hgl, hs, hi⟩ := same_TreeOf L hl
  replace hgl : g.length ≤ 1048576 := hgl
  have hgg := ev_eqIntS g g (by omega)
  have hll := ev_eqSpotS L (by omega)
  obtain ⟨L', hmL⟩ := ev_markSpotS L 1 hl (by omega) (by omega)
  have hmg := ev_markIntS g 1 (by omega) (by omega)
  have hhg := ev_heldIntS 1 g.length (by omega) (by omega)
  refine Ev.bind ht (Ev.bind hs (Ev.bind ht (Ev.bind hi (Ev.bind hgg (Ev.ite_pos (by simp) (Ev.ite_pos (by simp) ?_))))))
  refine Ev.round (fun k => by simp only [laws_FnExactTreeOf.j0]; rw [if_neg (by simp)]) ?_
  refine Ev.bind ht (Ev.bind hll (Ev.ite_pos rfl (Ev.bind hmL (Ev.ite_neg (by simp; omega) (Ev.bind hgg (Ev.ite_pos (by simp) (Ev.ite_pos (by simp) ?_)))))))
  refine Ev.round (fun k => by simp only [laws_FnExactTreeOf.j1]; rw [if_neg (by simp)]) ?_
  refine Ev.bind hmg (Ev.bind hhg (Ev.ite_neg (by omega) (Ev.ite_pos rfl (Ev.bind ht (Ev.bind hi (Ev.bind hgg (Ev.ite_pos (by simp) (Ev.ite_pos (by simp) ?_))))))))
  refine Ev.round (fun k => by simp only [laws_FnExactTreeOf.j2]; rw [if_neg (by simp)]) ?_
  exact Ev.bind hhg (Ev.ite_neg (by omega) (Ev.ite_pos rfl (Ev.now _)))

end Go.Proofs.Ytcbjfnkeieeecaa.Pure
