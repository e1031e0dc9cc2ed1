/- FnExactMovesNeeded: at all places and wanted ones the program's MovesNeeded answers as the reference's, and leaves its arguments as they were. -/
import Derived.Test.YtccnpnlmihcmlaaGLMovesNeeded6
import Derived.Test.YtccnpnlmihcmlaaComMovesNeeded
namespace Go.Proofs.Ytccnpnlmihcmlaa.Pure
open Go.RowKit Go.Proofs.Ytccnpnlmihcmlaa.GLMovesNeeded Go.Proofs.YtccnpnlmihcmlaaW.PrintWords Go.Proofs.YtccnpnlmihcmlaaW.PrintLast Go.Proofs.YtccnpnlmihcmlaaW.PrintMore Go.Proofs.YtccnpnlmihcmlaaW.PrintOwn
set_option linter.unusedVariables false
set_option linter.unusedSimpArgs false
theorem FnExactMovesNeeded : laws_FnExactMovesNeeded.Pure := by
  intro a b ⟨hm, _⟩ ⟨hm2, _⟩
  unfold maxLen at hm hm2
  apply Ev.rounds
  unfold laws_FnExactMovesNeeded.f
  by_cases h0 : (a.length : Int) > 1048576
  · exact Ev.ite_pos h0 (Ev.now _)
  refine Ev.ite_neg h0 ?_
  by_cases h1 : (b.length : Int) > 1048576
  · exact Ev.ite_pos h1 (Ev.now _)
  refine Ev.ite_neg h1 ?_
  have ta := ev_toIntS a (by omega)
  have tb := ev_toIntS b (by omega)
  have ea := ev_eqIntS a a (by omega)
  have eb := ev_eqIntS b b (by omega)
  obtain ⟨⟨x, v⟩, hs, hi⟩ := same_MovesNeeded a b (by omega) (by omega)
  refine Ev.bind ta (Ev.bind tb (Ev.bind hs (Ev.bind ta (Ev.bind tb (Ev.bind hi (Ev.ite_pos rfl ?_))))))
  refine Ev.round (fun k => by simp only [laws_FnExactMovesNeeded.j0]; rw [if_neg (by simp)]) ?_
  exact Ev.bind ta (Ev.bind ea (Ev.ite_pos (by simp) (Ev.bind tb (Ev.bind eb (Ev.ite_pos (by simp) (Ev.now _))))))

end Go.Proofs.Ytccnpnlmihcmlaa.Pure
