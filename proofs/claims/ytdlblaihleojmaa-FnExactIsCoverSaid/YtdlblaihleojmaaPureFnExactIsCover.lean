/- FnExactIsCover: at all fits, loads and bins of at most 1048576 cells the program's IsCover answers as the reference's, and leaves its arguments as they were. -/
import Derived.Test.YtdlblaihleojmaaGLIsCover1
import Derived.Test.YtdlblaihleojmaaGLIsCover3
import Derived.Test.YtdlblaihleojmaaGLIsCover5
import Derived.Test.YtdlblaihleojmaaComIsCover
namespace Go.Proofs.Ytdlblaihleojmaa.Pure
open Go.RowKit Go.Proofs.Ytdlblaihleojmaa.GLIsCover Go.Proofs.YtdlblaihleojmaaW.PrintWords Go.Proofs.YtdlblaihleojmaaW.PrintLast Go.Proofs.YtdlblaihleojmaaW.PrintMore Go.Proofs.YtdlblaihleojmaaW.PrintOwn
set_option linter.unusedVariables false
set_option linter.unusedSimpArgs false
theorem FnExactIsCover : laws_FnExactIsCover.Pure := by
  intro n a b ⟨hm, hw⟩ ⟨ha, _⟩ ⟨hb, _⟩
  have hx : ∀ x ∈ n, x.length ≤ 9223372036854775807 := fun x hx => by have := (hw x hx).1; unfold maxLen at this; omega
  unfold maxLen at hm ha hb
  apply Ev.rounds
  unfold laws_FnExactIsCover.f
  by_cases h0 : (a.length : Int) > 1048576
  · exact Ev.ite_pos h0 (Ev.now _)
  refine Ev.ite_neg h0 ?_
  by_cases h0' : (b.length : Int) > 1048576
  · exact Ev.ite_pos h0' (Ev.now _)
  refine Ev.ite_neg h0' (Ev.bind (ev_szBoolSS n 1048576 (by omega)) ?_)
  by_cases h : szRows n 1048576 < 0
  · exact Ev.ite_pos h (Ev.now _)
  refine Ev.ite_neg h ?_
  obtain ⟨h1, h2, h3⟩ := szRows_ok (by omega) (by omega) (by omega) hx h
  have ht := ev_toBoolSS n (by omega) (fun x hx => by have := h2 x hx; omega)
  have hta := ev_toIntS a (by omega)
  have htb := ev_toIntS b (by omega)
  obtain ⟨r, p, q⟩ := same_IsCover n a b (by omega) (by omega) (by omega)
  refine Ev.bind ht (Ev.bind hta (Ev.bind htb (Ev.bind p (Ev.bind ht (Ev.bind hta (Ev.bind htb (Ev.bind q ?_)))))))
  refine Ev.ite_neg (by simp) ?_
  refine Ev.round (f := fun k => (laws_toBoolSS.f k n).bind fun t179 => ((laws_eqBoolSS.f k n t179).bind fun t182 => (if t182 = true then ((laws_toIntS.f k a).bind fun t183 => ((laws_eqIntS.f k a t183).bind fun t186 => (if t186 = true then ((laws_toIntS.f k b).bind fun t187 => ((laws_eqIntS.f k b t187).bind fun t190 => (if t190 = true then (some true) else (some false)))) else (some false)))) else (some false)))) (fun k => ?_) ?_
  · simp only [laws_FnExactIsCover.j0]
    rw [if_neg (by simp)]
  · refine Ev.bind ht (Ev.bind (ev_eqBoolSS n n (by omega) hx) (Ev.ite_pos (by simp) ?_))
    refine Ev.bind hta (Ev.bind (ev_eqIntS a a (by omega)) (Ev.ite_pos (by simp) ?_))
    refine Ev.bind htb (Ev.bind (ev_eqIntS b b (by omega)) ?_)
    exact Ev.ite_pos (by simp) (Ev.now _)

end Go.Proofs.Ytdlblaihleojmaa.Pure
