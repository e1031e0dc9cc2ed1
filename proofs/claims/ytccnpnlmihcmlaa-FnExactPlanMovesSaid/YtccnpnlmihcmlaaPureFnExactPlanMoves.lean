/- FnExactPlanMoves: at all places and wanted ones the program's PlanMoves answers as the reference's, leaves its arguments as they were, and its answer is memory of its own. -/
import Derived.Test.YtccnpnlmihcmlaaGLPlanMoves7
import Derived.Test.YtccnpnlmihcmlaaComPlanMoves
namespace Go.Proofs.Ytccnpnlmihcmlaa.Pure
open Go.RowKit Go.Proofs.Ytccnpnlmihcmlaa.GLPlanMoves Go.Proofs.YtccnpnlmihcmlaaW.PrintWords Go.Proofs.YtccnpnlmihcmlaaW.PrintLast Go.Proofs.YtccnpnlmihcmlaaW.PrintMore Go.Proofs.YtccnpnlmihcmlaaW.PrintOwn
set_option linter.unusedVariables false
set_option linter.unusedSimpArgs false
theorem FnExactPlanMoves : laws_FnExactPlanMoves.Pure := by
  intro a b ⟨hm, _⟩ ⟨hm2, _⟩
  unfold maxLen at hm hm2
  apply Ev.rounds
  unfold laws_FnExactPlanMoves.f
  by_cases h0 : (a.length : Int) > 1048576
  · exact Ev.ite_pos h0 (Ev.now _)
  refine Ev.ite_neg h0 ?_
  by_cases h1 : (b.length : Int) > 1048576
  · exact Ev.ite_pos h1 (Ev.now _)
  refine Ev.ite_neg h1 ?_
  have ta := ev_toIntS a (by omega)
  have tb := ev_toIntS b (by omega)
  have ea := ev_eqIntS a a (by omega)
  have eb := ev_eqIntS b b (by omega)
  obtain ⟨⟨g, v⟩, hgl, hs, hi⟩ := same_PlanMoves a b (by omega) (by omega)
  replace hgl : g.length ≤ 1000 := hgl
  have hgg := ev_eqMoveS g (by omega)
  have hma := ev_markIntS a 1 (by omega) (by omega)
  have hmb := ev_markIntS b (1 + (a.length : Int)) (by omega) (by omega)
  have hmg := ev_markMoveT g 1 (by omega) (by omega)
  have hhg := ev_heldMoveT 1 g.length (by omega) (by omega)
  refine Ev.bind ta (Ev.bind tb (Ev.bind hs (Ev.bind ta (Ev.bind tb (Ev.bind hi (Ev.bind hgg (Ev.ite_pos rfl ?_)))))))
  refine Ev.round (fun k => by simp only [laws_FnExactPlanMoves.j0]; rw [if_neg (by simp)]) ?_
  refine Ev.bind ta (Ev.bind ea (Ev.ite_pos (by simp) (Ev.bind tb (Ev.bind eb (Ev.ite_pos (by simp) (Ev.bind hma (Ev.bind hmb (Ev.ite_neg (by simp; omega) (Ev.bind hgg (Ev.ite_pos rfl ?_))))))))))
  refine Ev.round (fun k => by simp only [laws_FnExactPlanMoves.j1]; rw [if_neg (by simp)]) ?_
  refine Ev.bind hmg (Ev.bind hhg (Ev.ite_neg (by omega) (Ev.ite_pos rfl (Ev.bind ta (Ev.bind tb (Ev.bind hi (Ev.bind hgg (Ev.ite_pos rfl ?_))))))))
  refine Ev.round (fun k => by simp only [laws_FnExactPlanMoves.j2]; rw [if_neg (by simp)]) ?_
  exact Ev.bind hhg (Ev.ite_neg (by omega) (Ev.ite_pos rfl (Ev.now _)))

end Go.Proofs.Ytccnpnlmihcmlaa.Pure
