/- FnExactGoodJob: at all jobs the program's GoodJob answers as the reference's, and leaves its argument as it was. -/
import Derived.Test.YtccnpnlmihcmlaaGLGoodJob8
import Derived.Test.YtccnpnlmihcmlaaComGoodJob
namespace Go.Proofs.Ytccnpnlmihcmlaa.Pure
open Go.RowKit Go.Proofs.Ytccnpnlmihcmlaa.GLGoodJob Go.Proofs.YtccnpnlmihcmlaaW.PrintWords Go.Proofs.YtccnpnlmihcmlaaW.PrintLast Go.Proofs.YtccnpnlmihcmlaaW.PrintMore Go.Proofs.YtccnpnlmihcmlaaW.PrintOwn
set_option linter.unusedVariables false
set_option linter.unusedSimpArgs false
theorem FnExactGoodJob : laws_FnExactGoodJob.Pure := by
  intro a b lf mv n ⟨ha, _⟩ ⟨hb, _⟩ ⟨hl, _⟩ ⟨hm, _⟩ _
  unfold maxLen at ha hb hl hm
  apply Ev.rounds
  unfold laws_FnExactGoodJob.f
  obtain ⟨z, hz, hs⟩ := szJob_eq a b lf mv n (by omega) (by omega) (by omega) (by omega)
  refine Ev.bindc hz ?_
  by_cases hn : z < 0
  · exact Ev.ite_pos hn (Ev.now _)
  refine Ev.ite_neg hn ?_
  obtain ⟨ha, hb, hl, hm, _⟩ : a.length ≤ 1048576 ∧ b.length ≤ 1048576 ∧ lf.length ≤ 1048576 ∧ mv.length ≤ 1048576 ∧ (a.length : Int) + b.length + lf.length + mv.length ≤ 1048576 := hs.resolve_left hn
  have ht := ev_toJob a b lf mv n ha hb hl hm
  have hl' : (lf.map toM).length ≤ 1048576 := by simpa using hl
  have hm' : (mv.map toM).length ≤ 1048576 := by simpa using hm
  have he := ev_eqJob a b (lf.map toM) (mv.map toM) n ha hb hl' hm'
  refine Ev.bind ht (Ev.bind (ev_specGoodJob a b _ _ n ha hb hl' hm') (Ev.bind ht (Ev.bind (ev_implGoodJob a b _ _ n ha hb hl' hm') ?_)))
  exact Ev.ite_neg (by simp) (Ev.bind ht (Ev.bind he (Ev.ite_pos rfl (Ev.now _))))

end Go.Proofs.Ytccnpnlmihcmlaa.Pure
