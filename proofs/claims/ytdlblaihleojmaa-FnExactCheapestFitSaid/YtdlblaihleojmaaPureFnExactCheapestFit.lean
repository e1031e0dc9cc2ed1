/- FnExactCheapestFit: at all costs the program's CheapestFit answers as the reference's; its answer owns its memory, and its argument stays as it was. -/
import Derived.Test.YtdlblaihleojmaaGLCheapestFit2
import Derived.Test.YtdlblaihleojmaaGLCheapestFit9
import Derived.Test.YtdlblaihleojmaaComCheapestFit
namespace Go.Proofs.Ytdlblaihleojmaa.Pure
open Go.RowKit Go.Proofs.Ytdlblaihleojmaa.GLCheapestFit Go.Proofs.YtdlblaihleojmaaW.PrintWords Go.Proofs.YtdlblaihleojmaaW.PrintLast Go.Proofs.YtdlblaihleojmaaW.PrintMore Go.Proofs.YtdlblaihleojmaaW.PrintOwn
set_option linter.unusedVariables false
set_option linter.unusedSimpArgs false
theorem FnExactCheapestFit : laws_FnExactCheapestFit.Pure := by
  intro l ⟨hm, hw⟩
  have hx : ∀ x ∈ l, x.length ≤ 9223372036854775807 := fun x hx => by have := (hw x hx).1; unfold maxLen at this; omega
  unfold maxLen at hm
  apply Ev.rounds
  unfold laws_FnExactCheapestFit.f
  refine Ev.bind (ev_szIntSS l 1048576 (by omega)) ?_
  by_cases h : szRows l 1048576 < 0
  · exact Ev.ite_pos h (Ev.now _)
  refine Ev.ite_neg h ?_
  obtain ⟨h1, h2, h3⟩ := szRows_ok (by omega) (by omega) (by omega) hx h
  have hf := szRows_flat (by omega) (by omega) (by omega) hx h
  have ht := ev_toIntSS l (by omega) (fun x hx => by have := h2 x hx; omega)
  obtain ⟨a, b, c, d, ⟨ha, hb, hc⟩, hs, hi⟩ := same_Cheapest l (by omega) hx
  have haa := ev_eqIntS a a (by omega)
  have hbc := ev_eqPrices b c (by omega) (by omega)
  have hll := ev_eqIntSS l l (by omega) hx
  rw [decide_eq_true rfl] at haa hll
  have hp : Ev (fun k => laws_markPrices.f k b c (1 + a.length)) (1 + a.length + b.length + c.length, upFrom (1 + a.length) b.length, upFrom (1 + a.length + b.length) c.length) := by
    unfold laws_markPrices.f
    exact Ev.bind (ev_markIntS b (1 + a.length) (by omega) (by omega)) (Ev.bind (ev_markIntS c (1 + a.length + b.length) (by omega) (by omega)) (Ev.now _))
  have hh : Ev (fun k => laws_heldPrices.f k (upFrom (1 + a.length) b.length) (upFrom (1 + a.length + b.length) c.length) (1 + a.length)) ((1 + a.length + b.length + c.length : Int)) := by
    unfold laws_heldPrices.f
    exact Ev.bind (ev_heldIntS (1 + a.length) b.length (by omega) (by omega)) (Ev.ite_neg (by omega) (Ev.bind (ev_heldIntS (1 + a.length + b.length) c.length (by omega) (by omega)) (Ev.ite_neg (by omega) (Ev.now _))))
  refine Ev.bind ht (Ev.bind hs ?_)
  exact Ev.need hi (Ev.need haa (Ev.need hbc (Ev.need hll (Ev.bindc (markSS_eq l 1 (by omega) (by omega)) (Ev.ite_pos (by omega) (Ev.bind (ev_markIntS a 1 (by omega) (by omega)) (Ev.bind hp (Ev.need (ev_heldIntS 1 a.length (by omega) (by omega)) (Ev.ite_pos (by omega) (Ev.need hh (Ev.ite_pos (by omega) (Ev.now _))))))))))))

end Go.Proofs.Ytdlblaihleojmaa.Pure
