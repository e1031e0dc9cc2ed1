/- FnExactPricesHold: at all costs and prices of at most 1048576 cells the program's PricesHold answers as the reference's, and leaves its arguments as they were. -/
import Derived.Test.YtdlblaihleojmaaGLPricesHold1
import Derived.Test.YtdlblaihleojmaaGLPricesHold2
import Derived.Test.YtdlblaihleojmaaGLPricesHold4
import Derived.Test.YtdlblaihleojmaaComPricesHold
namespace Go.Proofs.Ytdlblaihleojmaa.Pure
open Go.RowKit Go.Proofs.Ytdlblaihleojmaa.GLPricesHold Go.Proofs.YtdlblaihleojmaaW.PrintWords Go.Proofs.YtdlblaihleojmaaW.PrintLast Go.Proofs.YtdlblaihleojmaaW.PrintMore Go.Proofs.YtdlblaihleojmaaW.PrintOwn
set_option linter.unusedVariables false
set_option linter.unusedSimpArgs false
theorem FnExactPricesHold : laws_FnExactPricesHold.Pure := by
  intro l a b ⟨hm, hw⟩ ⟨ha, _⟩ ⟨hb, _⟩
  have hx : ∀ x ∈ l, x.length ≤ 9223372036854775807 := fun x hx => by have := (hw x hx).1; unfold maxLen at this; omega
  unfold maxLen at hm ha hb
  apply Ev.rounds
  unfold laws_FnExactPricesHold.f
  refine Ev.bind (ev_szIntSS l 1048576 (by omega)) ?_
  by_cases h : szRows l 1048576 < 0
  · exact Ev.ite_pos h (Ev.now _)
  refine Ev.ite_neg h ?_
  obtain ⟨h1, h2, h3⟩ := szRows_ok (by omega) (by omega) (by omega) hx h
  obtain ⟨z, hz, hs⟩ := szPrices_eq a b (szRows l 1048576) (by omega) (by omega) (by omega) (by omega)
  refine Ev.bindc hz ?_
  by_cases c : z < 0
  · exact Ev.ite_pos c (Ev.now _)
  refine Ev.ite_neg c ?_
  have hl : (a.length : Int) + b.length ≤ 1048576 := by omega
  have ht := ev_toIntSS l (by omega) (fun x hx => by have := h2 x hx; omega)
  have hp := ev_toPrices a b (by omega) (by omega)
  obtain ⟨r, hr1, hr2⟩ := same_PricesHold l a b (by omega) hx (by omega) (by omega)
  refine Ev.bind ht (Ev.bind hp (Ev.bind hr1 (Ev.bind ht (Ev.bind hp (Ev.bind hr2 ?_)))))
  refine Ev.ite_neg (by simp) ?_
  refine Ev.round (f := fun k => (laws_toIntSS.f k l).bind fun t241 => ((laws_eqIntSS.f k l t241).bind fun t244 => (if t244 = true then ((laws_toPrices.f k a b).bind fun bt245 => ((laws_eqPrices.f k a b bt245.1 bt245.2).bind fun t251 => (if t251 = true then (some true) else (some false)))) else (some false)))) (fun k => ?_) ?_
  · simp only [laws_FnExactPricesHold.j0]
    rw [if_neg (by simp)]
  · refine Ev.bind ht (Ev.bind (ev_eqIntSS l l (by omega) hx) ?_)
    refine Ev.ite_pos (by simp) (Ev.bind hp (Ev.bind (ev_eqPrices a b (by omega) (by omega)) ?_))
    exact Ev.ite_pos rfl (Ev.now _)

end Go.Proofs.Ytdlblaihleojmaa.Pure
