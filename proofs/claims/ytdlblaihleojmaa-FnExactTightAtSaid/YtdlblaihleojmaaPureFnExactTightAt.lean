/- FnExactTightAt: at all costs and prices the program's TightAt answers as the reference's; its answer owns its memory, and its arguments stay as they were. -/
import Derived.Test.YtdlblaihleojmaaGLTightAt6
import Derived.Test.YtdlblaihleojmaaComTightAt
namespace Go.Proofs.Ytdlblaihleojmaa.Pure
open Go.RowKit Go.Proofs.Ytdlblaihleojmaa.GLTightAt Go.Proofs.YtdlblaihleojmaaW.PrintWords Go.Proofs.YtdlblaihleojmaaW.PrintLast Go.Proofs.YtdlblaihleojmaaW.PrintMore Go.Proofs.YtdlblaihleojmaaW.PrintOwn
set_option linter.unusedVariables false
set_option linter.unusedSimpArgs false
theorem FnExactTightAt : laws_FnExactTightAt.Pure := by
  intro l a b ⟨hm, hw⟩ ⟨ha, _⟩ ⟨hb, _⟩
  have hx : ∀ x ∈ l, x.length ≤ 9223372036854775807 := fun x hx => by have := (hw x hx).1; unfold maxLen at this; omega
  unfold maxLen at hm ha hb
  apply Ev.rounds
  unfold laws_FnExactTightAt.f
  refine Ev.bind (ev_szIntSS l 1048576 (by omega)) ?_
  by_cases h : szRows l 1048576 < 0
  · exact Ev.ite_pos h (Ev.now _)
  refine Ev.ite_neg h ?_
  obtain ⟨h1, h2, h3⟩ := szRows_ok (by omega) (by omega) (by omega) hx h
  have hf := szRows_flat (by omega) (by omega) (by omega) hx h
  obtain ⟨z, hz, hs⟩ := szPrices_eq a b (szRows l 1048576) (by omega) (by omega) (by omega) (by omega)
  refine Ev.bindc hz ?_
  by_cases c : z < 0
  · exact Ev.ite_pos c (Ev.now _)
  refine Ev.ite_neg c ?_
  have hl : (a.length : Int) + b.length ≤ 1048576 := by omega
  have ht := ev_toIntSS l (by omega) (fun x hx => by have := h2 x hx; omega)
  have hp := ev_toPrices a b (by omega) (by omega)
  obtain ⟨r, y, ⟨hr1, hr2⟩, hs, hi⟩ := same_Tight l a b (by omega) hx (by omega) (by omega)
  have hrf : r.flatten.length ≤ 100 := Nat.le_trans (flatB_le hr2) (by omega)
  have hrr := ev_eqBB r (by omega) (fun x hx => by have := hr2 x hx; omega)
  have hll := ev_eqIntSS l l (by omega) hx
  rw [decide_eq_true rfl] at hll
  have hpp := ev_eqPrices a b (by omega) (by omega)
  obtain ⟨m1, m2, hmp⟩ := ev_markPrices a b (1 + l.flatten.length) (by omega) (by omega) (by omega) (by omega)
  refine Ev.bind ht (Ev.bind hp (Ev.bind hs ?_))
  refine Ev.need hi (Ev.need hrr (Ev.need hll (Ev.need hpp (Ev.bindc (markSS_eq l 1 (by omega) (by omega)) (Ev.bind hmp (Ev.ite_pos (by omega) (Ev.bindc (markBB_eq r 1 (by omega) (by omega)) (Ev.need (ev_heldBB r 1 (by omega) (by omega) (by omega)) (Ev.ite_pos (by omega) (Ev.now _))))))))))

end Go.Proofs.Ytdlblaihleojmaa.Pure
