/- FnExactGoodHouse: at all houses whose lists are together at most 1048576 long the program's GoodHouse answers as the reference's, and leaves its argument as it was. -/
import Derived.Test.YtgeapkhhfmjpaaaGLGoodHouse4
import Derived.Test.YtgeapkhhfmjpaaaComGoodHouse
namespace Go.Proofs.Ytgeapkhhfmjpaaa.Pure
open Go.RowKit Go.Proofs.Ytgeapkhhfmjpaaa.GLGoodHouse Go.Proofs.YtgeapkhhfmjpaaaW.PrintWords Go.Proofs.YtgeapkhhfmjpaaaW.PrintLast Go.Proofs.YtgeapkhhfmjpaaaW.PrintMore Go.Proofs.YtgeapkhhfmjpaaaW.PrintOwn
set_option linter.unusedVariables false
set_option linter.unusedSimpArgs false
theorem FnExactGoodHouse : laws_FnExactGoodHouse.Pure := by
  intro a b c ⟨ha, _⟩ ⟨hb, _⟩ ⟨hc, _⟩
  apply Ev.rounds
  unfold laws_FnExactGoodHouse.f
  obtain ⟨z, hz, hz2⟩ := szHouse_eq a b c ha hb hc
  refine Ev.bindc hz ?_
  by_cases h : z < 0
  · exact Ev.ite_pos h (Ev.now _)
  refine Ev.ite_neg h ?_
  have ht := ev_toHouse a b c (by omega) (by omega) (by omega)
  refine Ev.bind ht (Ev.bind (ev_GoodHouse a b c (by omega) (by omega) (by omega)) (Ev.bind ht (Ev.bind (ev_implGoodHouse a b c (by omega) (by omega)) ?_)))
  refine Ev.ite_neg (by simp) (Ev.bind ht (Ev.bind (ev_eqHouse a b c (by omega) (by omega) (by omega)) (Ev.ite_pos rfl (Ev.now _))))

end Go.Proofs.Ytgeapkhhfmjpaaa.Pure
