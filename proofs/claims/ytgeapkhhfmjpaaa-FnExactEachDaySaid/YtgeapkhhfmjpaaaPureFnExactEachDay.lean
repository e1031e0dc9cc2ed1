/- FnExactEachDay: at all trades of at most 1048576 days the program's EachDay answers as the reference's, leaves its argument as it was, and its answer is memory of its own. -/
import Derived.Test.YtgeapkhhfmjpaaaGLEachDay2
import Derived.Test.YtgeapkhhfmjpaaaGLEachDay3
import Derived.Test.YtgeapkhhfmjpaaaGLEachDay4
import Derived.Test.YtgeapkhhfmjpaaaComEachDay
namespace Go.Proofs.Ytgeapkhhfmjpaaa.Pure
open Go.RowKit Go.Proofs.Ytgeapkhhfmjpaaa.GLEachDay Go.Proofs.YtgeapkhhfmjpaaaW.PrintWords Go.Proofs.YtgeapkhhfmjpaaaW.PrintLast Go.Proofs.YtgeapkhhfmjpaaaW.PrintMore Go.Proofs.YtgeapkhhfmjpaaaW.PrintOwn
set_option linter.unusedVariables false
set_option linter.unusedSimpArgs false
theorem each_both (a : List Int) (s p : Int) (ha : a.length ≤ 1048576) : ∃ r : List Int × Bool, r.1.length ≤ 1048576 ∧ Ev (fun k => spec_EachDay.f k a s p) r ∧ impl_EachDay.f a s p = some r := by
  have hs := ev_GoodTrade a s p (by omega)
  cases hg : goodTrade a s p with
  | true =>
    rw [hg] at hs
    have hb := goodTrade_iff hg
    refine ⟨(a, true), ha, ?_, ?_⟩
    · unfold spec_EachDay.f
      refine Ev.bind hs (Ev.ite_pos rfl (Ev.bind (ev_l12Numbers a.length (by omega)) (Ev.bind (ev_l14For a _ s p ha (by rw [upFrom_length]; exact ha) ?_) (Ev.cast (Ev.now _) ?_))))
      · have : ∀ (n : Nat) (x : Int) (q : Option Int) (m : Nat), (∀ y, q = some y → y < x) → 0 ≤ x → x + n ≤ m → GoodDays m q (upFrom x n) := by
          intro n
          induction n with
          | zero => intro x q m _ _ _; exact ⟨by cases q <;> rfl, by simp [upFrom]⟩
          | succ n ih =>
            intro x q m hq h0 hm
            have := ih (x + 1) (some x) m (fun y hy => by cases hy; omega) (by omega) (by omega)
            refine ⟨?_, fun y hy => ?_⟩
            · rw [upFrom]
              cases q with
              | none => exact this.1
              | some y => simp only [upB, Bool.and_eq_true, decide_eq_true_iff]; exact ⟨hq y rfl, this.1⟩
            · rw [upFrom] at hy
              rcases List.mem_cons.1 hy with rfl | hy
              · omega
              · exact this.2 y hy
        exact this a.length 0 none a.length (fun y hy => by cases hy) (by omega) (by omega)
      · have := lots_each a hb.2.2 a [] rfl
        unfold lotsB
        simp only [List.nil_append, List.length_nil] at this
        rw [show ((0 : Nat) : Int) = 0 from rfl] at this
        rw [this]
    · unfold impl_EachDay.f
      rw [implGoodTrade, hg, Option.bind_some, if_pos rfl]
      unfold slices_Clone_int_int.f
      rw [if_pos (by omega)]
      rfl
  | false =>
    rw [hg] at hs
    refine ⟨([], false), by simp, ?_, ?_⟩
    · unfold spec_EachDay.f
      exact Ev.bind hs (Ev.ite_neg (by simp) (Ev.now _))
    · unfold impl_EachDay.f
      rw [implGoodTrade, hg]
      rfl
theorem FnExactEachDay : laws_FnExactEachDay.Pure := by
  intro a s p ⟨ha, _⟩ _ _
  apply Ev.rounds
  unfold laws_FnExactEachDay.f
  obtain ⟨z, hz, hz2⟩ := szTrade_eq a s p ha
  refine Ev.bindc hz ?_
  by_cases h : z < 0
  · exact Ev.ite_pos h (Ev.now _)
  refine Ev.ite_neg h ?_
  have hl : a.length ≤ 1048576 := by omega
  have ht := ev_toTrade a s p (by omega)
  obtain ⟨⟨g, b⟩, hr, hs, hi⟩ := each_both a s p hl
  have hr' : g.length ≤ 1048576 := hr
  have hgg := ev_eqIntS g g (by omega)
  refine Ev.bind ht (Ev.bind hs (Ev.bind ht (Ev.bindc hi (Ev.bind hgg (Ev.ite_pos (by simp) ?_)))))
  have hb : (b != b) = false := by simp
  have hj2 : Ev (fun k => laws_FnExactEachDay.j2 k (upFrom 1 g.length) (1 + g.length) false) true := by
    refine Ev.round (fun k => by simp only [laws_FnExactEachDay.j2]; rfl) ?_
    refine Ev.ite_neg (by simp) ?_
    refine Ev.bind (ev_heldIntS 1 g.length (by omega) (by omega)) ?_
    refine Ev.ite_neg (by omega) ?_
    exact Ev.ite_pos rfl (Ev.now _)
  have hj1 : Ev (fun k => laws_FnExactEachDay.j1 k g b g false a s p) true := by
    refine Ev.round (fun k => by simp only [laws_FnExactEachDay.j1]; rfl) ?_
    refine Ev.ite_neg (by simp) ?_
    refine Ev.bind (ev_markIntS g 1 (by omega) (by omega)) ?_
    refine Ev.bind (ev_heldIntS 1 g.length (by omega) (by omega)) ?_
    refine Ev.ite_neg (by omega) ?_
    refine Ev.ite_pos rfl ?_
    refine Ev.bind ht ?_
    skip
    refine Ev.bindc hi ?_
    refine Ev.bind hgg ?_
    refine Ev.ite_pos (by simp) ?_
    show Ev (fun k => laws_FnExactEachDay.j2 k (upFrom 1 g.length) (1 + g.length) (b != b)) true
    rw [hb]
    exact hj2
  rw [show ((g, b).2 != (g, b).2) = false from hb]
  refine Ev.round (fun k => by simp only [laws_FnExactEachDay.j0]; rfl) ?_
  refine Ev.ite_neg (by simp) ?_
  refine Ev.bind ht ?_
  refine Ev.bind (ev_eqTrade a s p (by omega)) ?_
  refine Ev.ite_pos rfl ?_
  refine Ev.bind (ev_markTrade a s p 1 (by omega) (by omega)) ?_
  refine Ev.ite_neg (by show ¬ (_ : Int) < 0; omega) ?_
  refine Ev.bind hgg ?_
  refine Ev.ite_pos (by simp) ?_
  show Ev (fun k => laws_FnExactEachDay.j1 k g b g (b != b) a s p) true
  rw [hb]
  exact hj1

end Go.Proofs.Ytgeapkhhfmjpaaa.Pure
