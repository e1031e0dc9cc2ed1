/- FnExactPriceSum: at all prices of at most 1048576 in all the program's PriceSum answers as the reference's, and leaves its argument as it was. -/
import Derived.Test.YtdlblaihleojmaaGLPriceSum1
import Derived.Test.YtdlblaihleojmaaGLPriceSum2
import Derived.Test.YtdlblaihleojmaaGLPriceSum3
import Derived.Test.YtdlblaihleojmaaComPriceSum
namespace Go.Proofs.Ytdlblaihleojmaa.Pure
open Go.RowKit Go.Proofs.Ytdlblaihleojmaa.GLPriceSum Go.Proofs.YtdlblaihleojmaaW.PrintWords Go.Proofs.YtdlblaihleojmaaW.PrintLast Go.Proofs.YtdlblaihleojmaaW.PrintMore Go.Proofs.YtdlblaihleojmaaW.PrintOwn
set_option linter.unusedVariables false
set_option linter.unusedSimpArgs false
theorem FnExactPriceSum : laws_FnExactPriceSum.Pure := by
  intro a b ⟨ha, _⟩ ⟨hb, _⟩
  unfold maxLen at ha hb
  apply Ev.rounds
  unfold laws_FnExactPriceSum.f
  obtain ⟨z, hz, hs⟩ := szPrices_eq a b 1048576 (by omega) (by omega) (by omega) (by omega)
  refine Ev.bindc hz ?_
  by_cases c : z < 0
  · exact Ev.ite_pos c (Ev.now _)
  refine Ev.ite_neg c ?_
  have hl : (a.length : Int) + b.length ≤ 1048576 := by omega
  have ht := ev_toPrices a b (by omega) (by omega)
  refine Ev.bind ht (Ev.bind (ev_PriceSum a b (by omega) (by omega)) (Ev.bind ht (Ev.bind (ev_implPriceSum a b (by omega) (by omega)) ?_)))
  refine Ev.ite_pos rfl ?_
  refine Ev.round (f := fun k => (laws_toPrices.f k a b).bind fun bt190 => ((laws_eqPrices.f k a b bt190.1 bt190.2).bind fun t196 => (if t196 = true then (some true) else (some false)))) (fun k => ?_) ?_
  · simp only [laws_FnExactPriceSum.j0]
    rw [if_neg (by simp)]
  · refine Ev.bind ht (Ev.bind (ev_eqPrices a b (by omega) (by omega)) ?_)
    exact Ev.ite_pos rfl (Ev.now _)

end Go.Proofs.Ytdlblaihleojmaa.Pure
