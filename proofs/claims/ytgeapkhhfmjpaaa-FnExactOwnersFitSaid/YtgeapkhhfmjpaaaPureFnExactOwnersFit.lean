/- FnExactOwnersFit: at all lists of ints at most 1048576 long the program's OwnersFit answers as the reference's, and leaves its arguments as they were. -/
import Derived.Test.YtgeapkhhfmjpaaaGLOwnersFit1
import Derived.Test.YtgeapkhhfmjpaaaGLOwnersFit2
import Derived.Test.YtgeapkhhfmjpaaaGLOwnersFit3
import Derived.Test.YtgeapkhhfmjpaaaComOwnersFit
namespace Go.Proofs.Ytgeapkhhfmjpaaa.Pure
open Go.RowKit Go.Proofs.Ytgeapkhhfmjpaaa.GLOwnersFit Go.Proofs.YtgeapkhhfmjpaaaW.PrintWords Go.Proofs.YtgeapkhhfmjpaaaW.PrintLast Go.Proofs.YtgeapkhhfmjpaaaW.PrintMore Go.Proofs.YtgeapkhhfmjpaaaW.PrintOwn
set_option linter.unusedVariables false
set_option linter.unusedSimpArgs false
theorem FnExactOwnersFit : laws_FnExactOwnersFit.Pure := by
  intro l0 l1 ⟨hm, hw⟩ ⟨hm1, hw1⟩
  apply Ev.rounds
  unfold laws_FnExactOwnersFit.f
  by_cases h : (l0.length : Int) > 1048576
  · exact Ev.ite_pos h (Ev.now _)
  refine Ev.ite_neg h ?_
  by_cases h1 : (l1.length : Int) > 1048576
  · exact Ev.ite_pos h1 (Ev.now _)
  refine Ev.ite_neg h1 ?_
  have ht := ev_toIntS l0 (by omega)
  have ht1 := ev_toIntS l1 (by omega)
  obtain ⟨r, hs, hi⟩ : ∃ r : Bool × Bool, Ev (fun k => spec_OwnersFit.f k l0 l1) r ∧ Ev (fun k => impl_OwnersFit.f k l0 l1) r := by
    refine ⟨if housedB l0 = true then (fitB l0 l1, true) else (false, false), ?_, ?_⟩
    · unfold spec_OwnersFit.f
      refine Ev.bind (ev_l17Sum l0 (by omega)) (Ev.bind (ev_l17Counts l0 _ (by omega)) ?_)
      cases hh : housedB l0 with
      | true =>
        have hb := housedB_iff hh
        have h10 : allIn l0 1 10 = true := allIn_iff.2 hb.2.1
        rw [if_pos ⟨h10, by omega⟩]
        refine Ev.ite_pos ?_ (Ev.bind (ev_l17Fit l0 l1 (by omega) (by omega)) (Ev.now _))
        unfold housedB at hh
        unfold countsB
        rw [Bool.and_eq_true] at hh
        rw [hh.1]
        simp
        simpa using hh.2
      | false =>
        refine Ev.ite_neg ?_ (Ev.now _)
        unfold housedB at hh
        unfold countsB
        intro hc
        simp only [Bool.and_eq_true, decide_eq_true_iff] at hc
        rw [if_pos ⟨hc.1.2, hc.1.1.2⟩] at hc
        simp only [hc.1.1.1, hc.1.1.2, hc.1.2, hc.2.2] at hh
        simp at hh
    · unfold impl_OwnersFit.f
      refine Ev.bind (ev_areHoused l0 (by omega)) ?_
      cases hh : housedB l0 with
      | true => exact Ev.ite_pos rfl (Ev.bind (ev_fit l0 l1 (by omega) (by omega)) (Ev.now _))
      | false => exact Ev.ite_neg (by simp) (Ev.now _)
  refine Ev.bind ht (Ev.bind ht1 (Ev.bind hs (Ev.bind ht (Ev.bind ht1 (Ev.bind hi ?_)))))
  refine Ev.ite_neg (by simp) (Ev.round (fun k => by simp only [laws_FnExactOwnersFit.j0]; rfl) (Ev.ite_neg (by simp) ?_))
  refine Ev.bind ht (Ev.bind (ev_eqIntS l0 l0 (by omega)) (Ev.ite_pos (by simp) (Ev.bind ht1 (Ev.bind (ev_eqIntS l1 l1 (by omega)) (Ev.ite_pos (by simp) (Ev.now _))))))

end Go.Proofs.Ytgeapkhhfmjpaaa.Pure
