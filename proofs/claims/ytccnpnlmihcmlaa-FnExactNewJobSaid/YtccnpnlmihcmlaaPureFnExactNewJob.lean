/- FnExactNewJob: at all places and wanted ones the program's NewJob answers as the reference's, its answer is memory of its own, and its arguments stay as they were. -/
import Derived.Test.YtccnpnlmihcmlaaGLNewJob8
import Derived.Test.YtccnpnlmihcmlaaComNewJob
namespace Go.Proofs.Ytccnpnlmihcmlaa.Pure
open Go.RowKit Go.Proofs.Ytccnpnlmihcmlaa.GLNewJob Go.Proofs.YtccnpnlmihcmlaaW.PrintWords Go.Proofs.YtccnpnlmihcmlaaW.PrintLast Go.Proofs.YtccnpnlmihcmlaaW.PrintMore Go.Proofs.YtccnpnlmihcmlaaW.PrintOwn
set_option linter.unusedVariables false
set_option linter.unusedSimpArgs false
theorem FnExactNewJob : laws_FnExactNewJob.Pure := by
  intro a b ⟨hm, _⟩ ⟨hm2, _⟩
  unfold maxLen at hm hm2
  apply Ev.rounds
  unfold laws_FnExactNewJob.f
  by_cases h0 : (a.length : Int) > 1048576
  · exact Ev.ite_pos h0 (Ev.now _)
  refine Ev.ite_neg h0 ?_
  by_cases h1 : (b.length : Int) > 1048576
  · exact Ev.ite_pos h1 (Ev.now _)
  refine Ev.ite_neg h1 ?_
  have ta := ev_toIntS a (by omega)
  have tb := ev_toIntS b (by omega)
  have ea := ev_eqIntS a a (by omega)
  have eb := ev_eqIntS b b (by omega)
  rw [decide_eq_true rfl] at ea eb
  obtain ⟨p, q, m, n, f, y, ⟨l1, l2, l3, l4⟩, hs, hi⟩ := same_NewJob a b (by omega) (by omega)
  have hma := ev_markIntS a 1 (by omega) (by omega)
  have hmb := ev_markIntS b (1 + (a.length : Int)) (by omega) (by omega)
  refine Ev.bind ta (Ev.bind tb (Ev.bind hs ?_))
  exact Ev.need hi (Ev.need (ev_eqJobS p q m n f l1 l2 l3 l4) (Ev.need ea (Ev.need eb (Ev.bind hma (Ev.bind hmb (Ev.ite_pos (by omega) (Ev.bind (ev_markJobS p q m n f l1 l2 l3 l4) (Ev.need (ev_heldJobS p.length q.length m.length n.length f l1 l2 l3 l4) (Ev.ite_pos (by omega) (Ev.now _))))))))))

end Go.Proofs.Ytccnpnlmihcmlaa.Pure
