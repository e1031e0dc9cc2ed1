/- FnExactGoodTrade: at all trades of at most 1048576 days the program's GoodTrade answers as the reference's, and leaves its argument as it was. -/
import Derived.Test.YtgeapkhhfmjpaaaGLGoodTrade2
import Derived.Test.YtgeapkhhfmjpaaaComGoodTrade
namespace Go.Proofs.Ytgeapkhhfmjpaaa.Pure
open Go.RowKit Go.Proofs.Ytgeapkhhfmjpaaa.GLGoodTrade Go.Proofs.YtgeapkhhfmjpaaaW.PrintWords Go.Proofs.YtgeapkhhfmjpaaaW.PrintLast Go.Proofs.YtgeapkhhfmjpaaaW.PrintMore Go.Proofs.YtgeapkhhfmjpaaaW.PrintOwn
set_option linter.unusedVariables false
set_option linter.unusedSimpArgs false
theorem FnExactGoodTrade : laws_FnExactGoodTrade.Pure := by
  intro a s p ⟨ha, _⟩ _ _
  apply Ev.rounds
  unfold laws_FnExactGoodTrade.f
  obtain ⟨z, hz, hz2⟩ := szTrade_eq a s p ha
  refine Ev.bindc hz ?_
  by_cases h : z < 0
  · exact Ev.ite_pos h (Ev.now _)
  refine Ev.ite_neg h ?_
  have ht := ev_toTrade a s p (by omega)
  refine Ev.bind ht (Ev.bind (ev_GoodTrade a s p (by omega)) (Ev.bind ht (Ev.bindc (implGoodTrade a s p) ?_)))
  refine Ev.ite_neg (by simp) (Ev.bind ht (Ev.bind (ev_eqTrade a s p (by omega)) (Ev.ite_pos rfl (Ev.now _))))

end Go.Proofs.Ytgeapkhhfmjpaaa.Pure
