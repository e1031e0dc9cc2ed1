/- FnExactNearestOf: at all houses whose lists are together at most 1048576 long, and at all goods, the program's NearestOf answers as the reference's, and leaves its arguments as they were. -/
import Derived.Test.YtgeapkhhfmjpaaaGLNearestOf3
import Derived.Test.YtgeapkhhfmjpaaaGLNearestOf4
import Derived.Test.YtgeapkhhfmjpaaaGLNearestOf5
import Derived.Test.YtgeapkhhfmjpaaaComNearestOf
namespace Go.Proofs.Ytgeapkhhfmjpaaa.Pure
open Go.RowKit Go.Proofs.Ytgeapkhhfmjpaaa.GLNearestOf Go.Proofs.YtgeapkhhfmjpaaaW.PrintWords Go.Proofs.YtgeapkhhfmjpaaaW.PrintLast Go.Proofs.YtgeapkhhfmjpaaaW.PrintMore Go.Proofs.YtgeapkhhfmjpaaaW.PrintOwn
set_option linter.unusedVariables false
set_option linter.unusedSimpArgs false
theorem nearest_same : ∀ (k : Nat) (a b : Int) (l : List Int) (n i : Int) (x y z : List Int), impl_NearestOf.l0 k a b l n i x y z = spec_NearestOf.l0 k a b l n i x y z
  | 0, _, _, _, _, _, _, _, _ => by simp only [impl_NearestOf.l0, spec_NearestOf.l0]
  | k + 1, a, b, l, n, i, x, y, z => by
    simp only [impl_NearestOf.l0, spec_NearestOf.l0, nearest_same k]
theorem nearest_ends (good : Int) (ways counts owners : List Int) (hl : owners.length = ways.length) (hn : owners.length ≤ 1048576) : ∀ (suf pre : List Int) (best : Int), owners = pre ++ suf → best < (ways.length : Int) →
    ∃ r, Ev (fun k => spec_NearestOf.l0 k good best owners (owners.length : Int) (pre.length : Int) ways counts owners) r
  | [], pre, best, e, hb => by
    refine ⟨(best, true), Ev.round (f := fun _ => some (best, true)) (fun k => ?_) (Ev.now _)⟩
    simp only [spec_NearestOf.l0]
    rw [if_neg (by subst e; simp)]
  | x :: suf, pre, best, e, hb => by
    have h1 : (pre.length : Int) < (owners.length : Int) := by rw [e]; exact lt_mid _ _ _
    have h2 : rd owners (pre.length : Int) = x := by rw [e]; exact rd_mid _ _ _
    have h3 : wrap64 ((pre.length : Int) + 1) = ((pre ++ [x]).length : Int) := by rw [List.length_append, List.length_singleton]; unfold wrap64; omega
    have e' : owners = (pre ++ [x]) ++ suf := by rw [e]; simp
    have step : ∀ b : Int, b < (ways.length : Int) → ∀ g : Nat → Option (Int × Bool), (∀ k, g (k + 1) = spec_NearestOf.l0 k good b owners (owners.length : Int) ((pre ++ [x]).length : Int) ways counts owners) → ∃ r, Ev g r := fun b hb' g hg => by
      obtain ⟨r, hr⟩ := nearest_ends good ways counts owners hl hn suf (pre ++ [x]) b e' hb'
      exact ⟨r, Ev.round hg hr⟩
    by_cases c : x = good
    · by_cases c2 : best < 0
      · refine step (pre.length : Int) (by omega) _ (fun k => ?_)
        simp only [spec_NearestOf.l0]
        rw [if_pos h1, if_pos (by omega), if_pos h1, h2, if_pos c, if_pos c2, h3]
      · by_cases c3 : rd ways (pre.length : Int) < rd ways best
        · refine step (pre.length : Int) (by omega) _ (fun k => ?_)
          simp only [spec_NearestOf.l0]
          rw [if_pos h1, if_pos (by omega), if_pos h1, h2, if_pos c, if_neg c2, if_pos (by omega), if_pos (by omega), if_pos hb, if_pos c3, h3]
        · refine step best hb _ (fun k => ?_)
          simp only [spec_NearestOf.l0]
          rw [if_pos h1, if_pos (by omega), if_pos h1, h2, if_pos c, if_neg c2, if_pos (by omega), if_pos (by omega), if_pos hb, if_neg c3, h3]
    · refine step best hb _ (fun k => ?_)
      simp only [spec_NearestOf.l0]
      rw [if_pos h1, if_pos (by omega), if_pos h1, h2, if_neg c, h3]
theorem nearest_both (a b c : List Int) (g : Int) (ha : a.length ≤ 1048576) (hb : b.length ≤ 1048576) (hc : c.length ≤ 1048576) :
    ∃ r : Int × Bool, Ev (fun k => spec_NearestOf.f k a b c g) r ∧ Ev (fun k => impl_NearestOf.f k a b c g) r := by
  unfold spec_NearestOf.f impl_NearestOf.f
  have hs := ev_GoodHouse a b c (by omega) (by omega) (by omega)
  have hi := ev_implGoodHouse a b c (by omega) (by omega)
  have hw : wrap64 ((b.length : Int) - 1) = (b.length : Int) - 1 := by unfold wrap64; omega
  cases hg : goodHouse a b c with
  | true =>
    rw [hg] at hs hi
    have hl : c.length = a.length := by
      unfold goodHouse at hg
      simp only [Bool.and_eq_true, decide_eq_true_iff] at hg
      have h5 := fitB_sum (by omega) hg.2
      have h6 := housedB_iff hg.1.1
      omega
    by_cases h0 : 0 ≤ g ∧ g < (b.length : Int)
    · obtain ⟨r, hr⟩ := nearest_ends g a b c hl hc c [] (-1) rfl (by omega)
      refine ⟨r, Ev.bind hs (Ev.ite_pos rfl (Ev.ite_neg (by omega) ?_)), Ev.bind hi (Ev.ite_pos rfl (Ev.bindc (within_eq _ _ _) ?_))⟩
      · rw [decide_eq_false (by omega)]
        refine Ev.round (fun k => ?_) hr
        simp only [spec_NearestOf.j0]
        rw [if_neg (by decide)]
        rfl
      · rw [hw, decide_eq_true h0.1, decide_eq_true (by omega : g ≤ (b.length : Int) - 1)]
        refine Ev.round (fun k => ?_) hr
        simp only [impl_NearestOf.j0]
        rw [if_neg (by decide), nearest_same]
        rfl
    · refine ⟨(0, false), Ev.bind hs (Ev.ite_pos rfl ?_), Ev.bind hi (Ev.ite_pos rfl (Ev.bindc (within_eq _ _ _) ?_))⟩
      · by_cases h1 : g < 0
        · refine Ev.ite_pos h1 (Ev.round (f := fun _ => some (0, false)) (fun k => ?_) (Ev.now _))
          simp only [spec_NearestOf.j0]
          rw [if_pos trivial]
        · refine Ev.ite_neg h1 (Ev.round (f := fun _ => some (0, false)) (fun k => ?_) (Ev.now _))
          simp only [spec_NearestOf.j0]
          rw [if_pos (by simp; omega)]
      · refine Ev.round (f := fun _ => some (0, false)) (fun k => ?_) (Ev.now _)
        simp only [impl_NearestOf.j0]
        rw [if_pos (by simp; omega)]
  | false =>
    rw [hg] at hs hi
    refine ⟨(0, false), Ev.bind hs (Ev.ite_neg (by simp) ?_), Ev.bind hi (Ev.ite_neg (by simp) ?_)⟩
    · refine Ev.round (f := fun _ => some (0, false)) (fun k => ?_) (Ev.now _)
      simp only [spec_NearestOf.j0]
      rw [if_pos trivial]
    · refine Ev.round (f := fun _ => some (0, false)) (fun k => ?_) (Ev.now _)
      simp only [impl_NearestOf.j0]
      rw [if_pos trivial]
theorem FnExactNearestOf : laws_FnExactNearestOf.Pure := by
  intro a b c g ⟨ha, _⟩ ⟨hb, _⟩ ⟨hc, _⟩ _
  apply Ev.rounds
  unfold laws_FnExactNearestOf.f
  obtain ⟨z, hz, hz2⟩ := szHouse_eq a b c ha hb hc
  refine Ev.bindc hz ?_
  by_cases h : z < 0
  · exact Ev.ite_pos h (Ev.now _)
  refine Ev.ite_neg h ?_
  have ht := ev_toHouse a b c (by omega) (by omega) (by omega)
  obtain ⟨r, hs, hi⟩ := nearest_both a b c g (by omega) (by omega) (by omega)
  refine Ev.bind ht (Ev.bind hs (Ev.bind ht (Ev.bind hi ?_)))
  refine Ev.ite_pos rfl (Ev.round (fun k => by simp only [laws_FnExactNearestOf.j0]; rfl) (Ev.ite_neg (by simp) (Ev.bind ht (Ev.bind (ev_eqHouse a b c (by omega) (by omega) (by omega)) (Ev.ite_pos rfl (Ev.now _))))))

end Go.Proofs.Ytgeapkhhfmjpaaa.Pure
