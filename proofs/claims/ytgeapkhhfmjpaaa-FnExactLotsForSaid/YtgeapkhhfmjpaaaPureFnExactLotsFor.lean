/- FnExactLotsFor: at all trades and days, each list at most 1048576 long, the program's LotsFor answers as the reference's, leaves its arguments as they were, and its answer is memory of its own. -/
import Derived.Test.YtgeapkhhfmjpaaaGLLotsFor3
import Derived.Test.YtgeapkhhfmjpaaaGLLotsFor4
import Derived.Test.YtgeapkhhfmjpaaaGLLotsFor5
import Derived.Test.YtgeapkhhfmjpaaaComLotsFor
namespace Go.Proofs.Ytgeapkhhfmjpaaa.Pure
open Go.RowKit Go.Proofs.Ytgeapkhhfmjpaaa.GLLotsFor Go.Proofs.YtgeapkhhfmjpaaaW.PrintWords Go.Proofs.YtgeapkhhfmjpaaaW.PrintLast Go.Proofs.YtgeapkhhfmjpaaaW.PrintMore Go.Proofs.YtgeapkhhfmjpaaaW.PrintOwn
set_option linter.unusedVariables false
set_option linter.unusedSimpArgs false
theorem goodDays_of {l : List Int} {n : Nat} (h : riseB l (n : Int) = true) : GoodDays n none l := by
  unfold riseB at h
  rw [Bool.and_eq_true, allIn_iff] at h
  exact ⟨h.1, fun x hx => by have := h.2 x hx; omega⟩
theorem lotsFor_both (a d : List Int) (s p : Int) (ha : a.length ≤ 1048576) (hd : d.length ≤ 1048576) : ∃ r : List Int × Bool, r.1.length ≤ 1048576 ∧ Ev (fun k => spec_LotsFor.f k a s p d) r ∧ Ev (fun k => impl_LotsFor.f k a s p d) r := by
  have hs := ev_GoodTrade a s p (by omega)
  have hr := ev_l8Rising d (a.length : Int) (by omega)
  have hr2 := ev_isRising d (a.length : Int) (by omega) (by omega) (by omega)
  unfold spec_LotsFor.f impl_LotsFor.f
  cases hg : goodTrade a s p with
  | false =>
    rw [hg] at hs
    exact ⟨([], false), by simp, Ev.bind hs (Ev.ite_neg (by simp) (Ev.now _)), Ev.bindc (by rw [implGoodTrade, hg]) (Ev.ite_neg (by simp) (Ev.now _))⟩
  | true =>
    rw [hg] at hs
    cases hu : riseB d (a.length : Int) with
    | false =>
      rw [hu] at hr hr2
      exact ⟨([], false), by simp, Ev.bind hs (Ev.ite_pos rfl (Ev.bind hr (Ev.ite_neg (by simp) (Ev.now _)))), Ev.bindc (by rw [implGoodTrade, hg]) (Ev.ite_pos rfl (Ev.bind hr2 (Ev.ite_neg (by simp) (Ev.now _))))⟩
    | true =>
      rw [hu] at hr hr2
      by_cases h0 : (d.length : Int) = 0
      · exact ⟨([], false), by simp, Ev.bind hs (Ev.ite_pos rfl (Ev.bind hr (Ev.ite_pos rfl (Ev.ite_pos h0 (Ev.now _))))), Ev.bindc (by rw [implGoodTrade, hg]) (Ev.ite_pos rfl (Ev.bind hr2 (Ev.ite_pos rfl (Ev.ite_pos h0 (Ev.now _)))))⟩
      · by_cases h1 : rd d 0 = 0
        · refine ⟨(lotsB a d, true), by rw [lotsB_length]; exact ha, Ev.bind hs (Ev.ite_pos rfl (Ev.bind hr (Ev.ite_pos rfl (Ev.ite_neg h0 (Ev.ite_pos (by omega) (Ev.ite_pos h1 (Ev.bind (ev_l14For a d s p ha hd (goodDays_of hu)) (Ev.now _)))))))), Ev.bindc (by rw [implGoodTrade, hg]) (Ev.ite_pos rfl (Ev.bind hr2 (Ev.ite_pos rfl (Ev.ite_neg h0 (Ev.ite_pos (by omega) (Ev.ite_pos h1 (Ev.bind (ev_lotsFor a d s p ha hd (goodDays_of hu)) (Ev.now _))))))))⟩
        · exact ⟨([], false), by simp, Ev.bind hs (Ev.ite_pos rfl (Ev.bind hr (Ev.ite_pos rfl (Ev.ite_neg h0 (Ev.ite_pos (by omega) (Ev.ite_neg h1 (Ev.now _))))))), Ev.bindc (by rw [implGoodTrade, hg]) (Ev.ite_pos rfl (Ev.bind hr2 (Ev.ite_pos rfl (Ev.ite_neg h0 (Ev.ite_pos (by omega) (Ev.ite_neg h1 (Ev.now _)))))))⟩
theorem FnExactLotsFor : laws_FnExactLotsFor.Pure := by
  intro a s p d ⟨ha, _⟩ _ _ ⟨hd, _⟩
  apply Ev.rounds
  unfold laws_FnExactLotsFor.f
  by_cases h0 : (d.length : Int) > 1048576
  · exact Ev.ite_pos h0 (Ev.now _)
  refine Ev.ite_neg h0 ?_
  obtain ⟨z, hz, hz2⟩ := szTrade_eq a s p ha
  refine Ev.bindc hz ?_
  by_cases h : z < 0
  · exact Ev.ite_pos h (Ev.now _)
  refine Ev.ite_neg h ?_
  have hl : a.length ≤ 1048576 := by omega
  have ht := ev_toTrade a s p (by omega)
  have hd1 := ev_toIntS d (by omega)
  have hdd := ev_eqIntS d d (by omega)
  obtain ⟨⟨g, b⟩, hr, hs, hi⟩ := lotsFor_both a d s p hl (by omega)
  have hr' : g.length ≤ 1048576 := hr
  have hgg := ev_eqIntS g g (by omega)
  refine Ev.bind ht (Ev.bind hd1 (Ev.bind hs (Ev.bind ht (Ev.bind hd1 (Ev.bind hi (Ev.bind hgg (Ev.ite_pos (by simp) ?_)))))))
  have hb : (b != b) = false := by simp
  have hj2 : Ev (fun k => laws_FnExactLotsFor.j2 k (upFrom 1 g.length) (1 + g.length) false) true := by
    refine Ev.round (fun k => by simp only [laws_FnExactLotsFor.j2]; rfl) ?_
    refine Ev.ite_neg (by simp) ?_
    refine Ev.bind (ev_heldIntS 1 g.length (by omega) (by omega)) ?_
    refine Ev.ite_neg (by omega) ?_
    exact Ev.ite_pos rfl (Ev.now _)
  have hj1 : Ev (fun k => laws_FnExactLotsFor.j1 k d g b g false a s p) true := by
    refine Ev.round (fun k => by simp only [laws_FnExactLotsFor.j1]; rfl) ?_
    refine Ev.ite_neg (by simp) ?_
    refine Ev.bind (ev_markIntS g 1 (by omega) (by omega)) ?_
    refine Ev.bind (ev_heldIntS 1 g.length (by omega) (by omega)) ?_
    refine Ev.ite_neg (by omega) ?_
    refine Ev.ite_pos rfl ?_
    refine Ev.bind ht ?_
    refine Ev.bind hd1 ?_
    refine Ev.bind hi ?_
    refine Ev.bind hgg ?_
    refine Ev.ite_pos (by simp) ?_
    show Ev (fun k => laws_FnExactLotsFor.j2 k (upFrom 1 g.length) (1 + g.length) (b != b)) true
    rw [hb]
    exact hj2
  rw [show ((g, b).2 != (g, b).2) = false from hb]
  refine Ev.round (fun k => by simp only [laws_FnExactLotsFor.j0]; rfl) ?_
  refine Ev.ite_neg (by simp) ?_
  refine Ev.bind ht ?_
  refine Ev.bind (ev_eqTrade a s p (by omega)) ?_
  refine Ev.ite_pos rfl ?_
  refine Ev.bind hd1 ?_
  refine Ev.bind hdd ?_
  refine Ev.ite_pos (by simp) ?_
  refine Ev.bind (ev_markTrade a s p 1 (by omega) (by omega)) ?_
  refine Ev.bind (ev_markIntS d (1 + a.length) (by omega) (by omega)) ?_
  refine Ev.ite_neg (by show ¬ (_ : Int) < 0; omega) ?_
  refine Ev.bind hgg ?_
  refine Ev.ite_pos (by simp) ?_
  show Ev (fun k => laws_FnExactLotsFor.j1 k d g b g (b != b) a s p) true
  rw [hb]
  exact hj1

end Go.Proofs.Ytgeapkhhfmjpaaa.Pure
