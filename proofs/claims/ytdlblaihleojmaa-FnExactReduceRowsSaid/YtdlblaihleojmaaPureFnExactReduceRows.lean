/- FnExactReduceRows: at all costs the program's ReduceRows answers as the reference's; its answer owns its memory, and its argument stays as it was. -/
import Derived.Test.YtdlblaihleojmaaGLReduceRows4
import Derived.Test.YtdlblaihleojmaaComReduceRows
namespace Go.Proofs.Ytdlblaihleojmaa.Pure
open Go.RowKit Go.Proofs.Ytdlblaihleojmaa.GLReduceRows Go.Proofs.YtdlblaihleojmaaW.PrintWords Go.Proofs.YtdlblaihleojmaaW.PrintLast Go.Proofs.YtdlblaihleojmaaW.PrintMore Go.Proofs.YtdlblaihleojmaaW.PrintOwn
set_option linter.unusedVariables false
set_option linter.unusedSimpArgs false
theorem FnExactReduceRows : laws_FnExactReduceRows.Pure := by
  intro l ⟨hm, hw⟩
  have hx : ∀ x ∈ l, x.length ≤ 9223372036854775807 := fun x hx => by have := (hw x hx).1; unfold maxLen at this; omega
  unfold maxLen at hm
  apply Ev.rounds
  unfold laws_FnExactReduceRows.f
  refine Ev.bind (ev_szIntSS l 1048576 (by omega)) ?_
  by_cases h : szRows l 1048576 < 0
  · exact Ev.ite_pos h (Ev.now _)
  refine Ev.ite_neg h ?_
  obtain ⟨h1, h2, h3⟩ := szRows_ok (by omega) (by omega) (by omega) hx h
  have hf := szRows_flat (by omega) (by omega) (by omega) hx h
  have ht := ev_toIntSS l (by omega) (fun x hx => by have := h2 x hx; omega)
  obtain ⟨r, b, ⟨hr1, hr2⟩, hs, hi⟩ := same_Reduce l (by omega) hx
  have hrf : r.flatten.length ≤ 100 := Nat.le_trans (flat_le hr2) (by omega)
  have hrr := ev_eqIntSS r r (by omega) (fun x hx => by have := hr2 x hx; omega)
  have hll := ev_eqIntSS l l (by omega) hx
  rw [decide_eq_true rfl] at hrr hll
  refine Ev.bind ht (Ev.bind hs ?_)
  refine Ev.need hi (Ev.need hrr (Ev.need hll (Ev.bindc (markSS_eq l 1 (by omega) (by omega)) (Ev.ite_pos (by omega) (Ev.bindc (markSS_eq r 1 (by omega) (by omega)) (Ev.need (ev_heldIntSS r 1 (by omega) (by omega) (by omega)) (Ev.ite_pos (by omega) (Ev.now _))))))))

end Go.Proofs.Ytdlblaihleojmaa.Pure
