/- FnExactFewestBoxes: at every list of ints at most 1048576 long the program's FewestBoxes answers as the reference's, and leaves its argument as it was. -/
import Derived.Test.YtojoglgjfocgiaaGLFewestBoxes5
import Derived.Test.YtojoglgjfocgiaaComFewestBoxes
namespace Go.Proofs.Ytojoglgjfocgiaa.Pure
open Go.RowKit Go.Proofs.Ytojoglgjfocgiaa.GLFewestBoxes Go.Proofs.YtojoglgjfocgiaaW.PrintWords Go.Proofs.YtojoglgjfocgiaaW.PrintLast Go.Proofs.YtojoglgjfocgiaaW.PrintMore Go.Proofs.YtojoglgjfocgiaaW.PrintOwn
set_option linter.unusedVariables false
set_option linter.unusedSimpArgs false
theorem FnExactFewestBoxes : laws_FnExactFewestBoxes.Pure := by
  intro l0 ⟨hm, hw⟩
  apply Ev.rounds
  unfold laws_FnExactFewestBoxes.f
  by_cases h : (l0.length : Int) > 1048576
  · exact Ev.ite_pos h (Ev.now _)
  refine Ev.ite_neg h ?_
  have ht := ev_toIntS l0 (by omega)
  obtain ⟨r, hs, hi⟩ := same_Fewest l0 (by omega)
  refine Ev.bind ht (Ev.bind hs (Ev.bind ht (Ev.bindc hi ?_)))
  refine Ev.ite_pos rfl (Ev.round (fun k => by simp only [laws_FnExactFewestBoxes.j0]; rfl) (Ev.ite_neg (by simp) (Ev.bind ht (Ev.bind (ev_eqIntS l0 l0 (by omega)) ?_))))
  exact Ev.ite_pos (by simp) (Ev.now _)

end Go.Proofs.Ytojoglgjfocgiaa.Pure
