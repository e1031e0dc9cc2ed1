/- FnExactCutWidth: at all nets and sides of at most 1048576 cells the program's CutWidth answers as the reference's, and leaves its arguments as they were. -/
import Derived.Test.YtdbepjnapjjlcaaGLCutWidth1
import Derived.Test.YtdbepjnapjjlcaaGLCutWidth5
import Derived.Test.YtdbepjnapjjlcaaComCutWidth
namespace Go.Proofs.Ytdbepjnapjjlcaa.Pure
open Go.RowKit Go.Proofs.Ytdbepjnapjjlcaa.GLCutWidth Go.Proofs.YtdbepjnapjjlcaaW.PrintWords Go.Proofs.YtdbepjnapjjlcaaW.PrintLast Go.Proofs.YtdbepjnapjjlcaaW.PrintMore Go.Proofs.YtdbepjnapjjlcaaW.PrintOwn
set_option linter.unusedVariables false
set_option linter.unusedSimpArgs false
theorem FnExactCutWidth : laws_FnExactCutWidth.Pure := by
  intro n s ⟨hm, hw⟩ ⟨hs, _⟩
  have hx : ∀ x ∈ n, x.length ≤ 9223372036854775807 := fun x hx => by have := (hw x hx).1; unfold maxLen at this; omega
  unfold maxLen at hm hs
  apply Ev.rounds
  unfold laws_FnExactCutWidth.f
  by_cases h0 : (s.length : Int) > 1048576
  · exact Ev.ite_pos h0 (Ev.now _)
  refine Ev.ite_neg h0 (Ev.bind (ev_szIntSS n 1048576 (by omega)) ?_)
  by_cases h : szRows n 1048576 < 0
  · exact Ev.ite_pos h (Ev.now _)
  refine Ev.ite_neg h ?_
  obtain ⟨h1, h2, h3⟩ := szRows_ok (by omega) (by omega) (by omega) hx h
  have ht := ev_toIntSS n (by omega) (fun x hx => by have := h2 x hx; omega)
  have ht' := ev_toIntS s (by omega)
  obtain ⟨r, p, q⟩ := same_CutWidth n s (by omega) hx (by omega)
  refine Ev.bind ht (Ev.bind ht' (Ev.bind p (Ev.bind ht (Ev.bind ht' (Ev.bind q ?_)))))
  refine Ev.ite_pos rfl ?_
  refine Ev.round (f := fun k => (laws_toIntSS.f k n).bind fun t259 => ((laws_eqIntSS.f k n t259).bind fun t262 => (if t262 = true then ((laws_toIntS.f k s).bind fun t263 => ((laws_eqIntS.f k s t263).bind fun t266 => (if t266 = true then (some true) else (some false)))) else (some false)))) (fun k => ?_) ?_
  · simp only [laws_FnExactCutWidth.j0]
    rw [if_neg (by simp)]
  · refine Ev.bind ht (Ev.bind (ev_eqIntSS n n (by omega) hx) (Ev.ite_pos (by simp) ?_))
    refine Ev.bind ht' (Ev.bind (ev_eqIntS s s (by omega)) ?_)
    exact Ev.ite_pos (by simp) (Ev.now _)

end Go.Proofs.Ytdbepjnapjjlcaa.Pure
