import Derived.Test.YtopnbfifbccegaaGA1
import Derived.Test.YtopnbfifbccegaaGA9
import Derived.Test.YtopnbfifbccegaaCom
namespace Go.Proofs.Ytopnbfifbccegaa.Pure
open Go.RowKit Go.Proofs.Ytopnbfifbccegaa.GA Go.Proofs.YtopnbfifbccegaaW.PrintWords Go.Proofs.YtopnbfifbccegaaW.PrintLast Go.Proofs.YtopnbfifbccegaaW.PrintMore Go.Proofs.YtopnbfifbccegaaW.PrintOwn
set_option linter.unusedVariables false
set_option linter.unusedSimpArgs false
/-! spots: a place's good, 0 for none -/

/-- From a place on no good stands where one stood before: pre is what lies ahead. -/
def noTwice : List Int → List Int → Bool
  | _, [] => true
  | pre, x :: suf => (decide (x = 0) || !decide (x ∈ pre)) && noTwice (pre ++ [x]) suf
def goodSpots (l : List Int) : Bool := (decide (2 ≤ (l.length : Int)) && decide ((l.length : Int) ≤ 9)) && (decide ((0 : Int) ∈ l) && (allIn l 0 20 && noTwice [] l))
theorem take_mid {α : Type} (pre suf : List α) : (pre ++ suf).take (pre.length : Int).toNat = pre := by
  rw [Int.toNat_natCast, List.take_left]
theorem ev_GoodSpots_l (l : List Int) (hn : l.length ≤ 9223372036854775807) (h0 : ∀ x ∈ l, 0 ≤ x) : ∀ (suf pre : List Int), l = pre ++ suf → Ev (fun k => spec_GoodSpots.l0 k l l (l.length : Int) (pre.length : Int)) (noTwice pre suf)
  | [], pre, e => by
    subst e
    refine Ev.round (f := fun _ => some true) (fun k => ?_) (Ev.now _)
    simp only [spec_GoodSpots.l0]
    rw [if_neg (by simp)]
  | x :: suf, pre, e => by
    subst e
    have ih := ev_GoodSpots_l (pre ++ x :: suf) hn h0 suf (pre ++ [x]) (snoc_mid _ _ _)
    have hx := h0 x (by simp)
    have hg := lt_mid pre suf x
    by_cases c : x = 0
    · refine Ev.round (fun k => ?_) (Ev.cast ih (by simp [noTwice, c]))
      simp only [spec_GoodSpots.l0]
      rw [if_pos hg, if_pos (by omega), if_pos hg, rd_mid, if_neg (by omega), up_mid _ _ _ hn]
    · by_cases m : x ∈ pre
      · refine Ev.round (fun k => ?_) (Ev.bind (ev_l1Has pre x (by simp at hn; omega)) (f := fun k t => if t = true then some false else spec_GoodSpots.l0 k (pre ++ x :: suf) (pre ++ x :: suf) ((pre ++ x :: suf).length : Int) (wrap64 ((pre.length : Int) + 1))) ?_)
        · simp only [spec_GoodSpots.l0]
          rw [if_pos hg, if_pos (by omega), if_pos hg, rd_mid, if_pos (by omega), if_pos (by omega), take_mid]
        · exact Ev.ite_pos (by simpa using m) (Ev.cast (Ev.now _) (by simp [noTwice, c, m]))
      · refine Ev.round (fun k => ?_) (Ev.bind (ev_l1Has pre x (by simp at hn; omega)) (f := fun k t => if t = true then some false else spec_GoodSpots.l0 k (pre ++ x :: suf) (pre ++ x :: suf) ((pre ++ x :: suf).length : Int) (wrap64 ((pre.length : Int) + 1))) ?_)
        · simp only [spec_GoodSpots.l0]
          rw [if_pos hg, if_pos (by omega), if_pos hg, rd_mid, if_pos (by omega), if_pos (by omega), take_mid]
        · refine Ev.ite_neg (by simpa using m) ?_
          rw [up_mid _ _ _ hn]
          exact Ev.cast ih (by simp [noTwice, c, m])
theorem ev_GoodSpots (l : List Int) (hn : l.length ≤ 9223372036854775807) : Ev (fun k => spec_GoodSpots.f k l) (goodSpots l) := by
  unfold spec_GoodSpots.f
  refine Ev.bindc (in_eq _ _ _) ?_
  by_cases h1 : (decide (2 ≤ (l.length : Int)) && decide ((l.length : Int) ≤ 9)) = true
  · refine Ev.ite_pos h1 (Ev.bind (ev_l1Has l 0 hn) ?_)
    by_cases h2 : (0 : Int) ∈ l
    · refine Ev.ite_pos (by simpa using h2) (Ev.bind (ev_l1All l 0 20 hn) ?_)
      refine Ev.round (fun k => by simp only [spec_GoodSpots.j0]; rfl) ?_
      cases h3 : allIn l 0 20 with
      | true =>
        refine Ev.ite_neg (by simp) (Ev.cast (ev_GoodSpots_l l hn (fun x hx => (allIn_iff.1 h3 x hx).1) l [] rfl) ?_)
        simp only [goodSpots, h1, h2, h3]
        simp
      | false =>
        refine Ev.ite_pos (by simp) (Ev.cast (Ev.now _) ?_)
        simp [goodSpots, h3]
    · refine Ev.ite_neg (by simpa using h2) ?_
      refine Ev.round (fun k => by simp only [spec_GoodSpots.j0]; rfl) ?_
      refine Ev.ite_pos (by trivial) (Ev.cast (Ev.now _) ?_)
      simp [goodSpots, h2]
  · refine Ev.ite_neg h1 ?_
    refine Ev.round (fun k => by simp only [spec_GoodSpots.j0]; rfl) ?_
    refine Ev.ite_pos (by trivial) (Ev.cast (Ev.now _) ?_)
    unfold goodSpots
    rw [Bool.eq_false_iff.2 h1]
    rfl

theorem noTwice_false {l : List Int} : ∀ {pre : List Int}, noTwice pre l = false → True := fun _ => trivial
theorem ev_implGoodSpots_l (l : List Int) (hn : l.length ≤ 9223372036854775807) : ∀ (suf pre : List Int), l = pre ++ suf →
    Ev (fun k => impl_GoodSpots.l0 k l l (l.length : Int) (pre.length : Int)) (noTwice pre suf && ((decide (2 ≤ (l.length : Int)) && decide ((l.length : Int) ≤ 9)) && (allIn l 0 20 && decide ((0 : Int) ∈ l))))
  | [], pre, e => by
    refine Ev.round (f := fun k => (impl_within.f (l.length : Int) 2 9).bind fun t => if t = true then ((impl_allWithin.f l 0 20).bind fun t => if t = true then ((slices_Contains_int_int.f k l 0).bind fun t => some t) else some false) else some false) (fun k => ?_) ?_
    · simp only [impl_GoodSpots.l0]
      rw [if_neg (by subst e; simp)]
    · refine Ev.bindc (within_eq _ _ _) ?_
      by_cases h1 : (decide (2 ≤ (l.length : Int)) && decide ((l.length : Int) ≤ 9)) = true
      · refine Ev.ite_pos h1 (Ev.bindc (allWithin_eq _ _ _) ?_)
        cases h3 : allIn l 0 20 with
        | true => exact Ev.ite_pos rfl (Ev.bind (ev_Contains l 0 hn) (Ev.cast (Ev.now _) (by simp [noTwice, h1])))
        | false => exact Ev.ite_neg (by simp) (Ev.cast (Ev.now _) (by simp))
      · refine Ev.ite_neg h1 (Ev.cast (Ev.now _) ?_)
        rw [Bool.eq_false_iff.2 h1]
        simp
  | x :: suf, pre, e => by
    subst e
    have ih := ev_implGoodSpots_l (pre ++ x :: suf) hn suf (pre ++ [x]) (snoc_mid _ _ _)
    have hg := lt_mid pre suf x
    by_cases c : x = 0
    · refine Ev.round (fun k => ?_) (Ev.cast ih (by simp [noTwice, c]))
      simp only [impl_GoodSpots.l0]
      rw [if_pos hg, if_pos (by omega), if_pos hg, rd_mid, if_pos c, up_mid _ _ _ hn]
    · refine Ev.round (fun k => ?_) (Ev.bind (ev_Contains pre x (by simp at hn; omega)) (f := fun k t => if t = true then some false else impl_GoodSpots.l0 k (pre ++ x :: suf) (pre ++ x :: suf) ((pre ++ x :: suf).length : Int) (wrap64 ((pre.length : Int) + 1))) ?_)
      · simp only [impl_GoodSpots.l0]
        rw [if_pos hg, if_pos (by omega), if_pos hg, rd_mid, if_neg c, if_pos (by omega), take_mid]
      · by_cases m : x ∈ pre
        · exact Ev.ite_pos (by simpa using m) (Ev.cast (Ev.now _) (by simp [noTwice, c, m]))
        · refine Ev.ite_neg (by simpa using m) ?_
          rw [up_mid _ _ _ hn]
          exact Ev.cast ih (by simp [noTwice, c, m])
theorem ev_implGoodSpots (l : List Int) (hn : l.length ≤ 9223372036854775807) : Ev (fun k => impl_GoodSpots.f k l) (goodSpots l) := by
  refine Ev.cast (ev_implGoodSpots_l l hn l [] rfl) ?_
  unfold goodSpots
  generalize (decide (2 ≤ (l.length : Int)) && decide ((l.length : Int) ≤ 9)) = a
  generalize decide ((0 : Int) ∈ l) = b
  generalize allIn l 0 20 = c
  generalize noTwice [] l = d
  cases a <;> cases b <;> cases c <;> cases d <;> rfl

/- FnExactGoodSpots: at every list of ints at most 1048576 long the program's GoodSpots answers as the reference's, and leaves its argument as it was. -/
theorem FnExactGoodSpots : laws_FnExactGoodSpots.Pure := by
  intro l0 ⟨hm, hw⟩
  apply Ev.rounds
  unfold laws_FnExactGoodSpots.f
  by_cases h : (l0.length : Int) > 1048576
  · exact Ev.ite_pos h (Ev.now _)
  refine Ev.ite_neg h ?_
  have ht := ev_toIntS l0 (by omega)
  refine Ev.bind ht (Ev.bind (ev_GoodSpots l0 (by omega)) (Ev.bind ht (Ev.bind (ev_implGoodSpots l0 (by omega)) ?_)))
  refine Ev.ite_neg (by simp) (Ev.bind ht (Ev.bind (ev_eqIntS l0 l0 (by omega)) ?_))
  exact Ev.ite_pos (by simp) (Ev.now _)

end Go.Proofs.Ytopnbfifbccegaa.Pure
