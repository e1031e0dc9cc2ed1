import Derived.Test.YtopnbfifbccegaaGA0
import Derived.Test.YtopnbfifbccegaaGA1
import Derived.Test.YtopnbfifbccegaaGA2
import Derived.Test.YtopnbfifbccegaaGA7
import Derived.Test.YtopnbfifbccegaaGA8
import Derived.Test.YtopnbfifbccegaaCom
namespace Go.Proofs.Ytopnbfifbccegaa.Pure
open Go.RowKit Go.Proofs.Ytopnbfifbccegaa.GA Go.Proofs.YtopnbfifbccegaaW.PrintWords Go.Proofs.YtopnbfifbccegaaW.PrintLast Go.Proofs.YtopnbfifbccegaaW.PrintMore Go.Proofs.YtopnbfifbccegaaW.PrintOwn
set_option linter.unusedVariables false
set_option linter.unusedSimpArgs false
/-! lists of spots -/

theorem ev_toSpotS_l (l : List S27) (hn : l.length ≤ 17592186044416) : ∀ (suf pre : List S27), l = pre ++ suf → ∀ (z : List S30), z.length = suf.length → Ev (fun k => laws_toSpotS.l0 k l (pre.map (fun s => ⟨s.f0, s.f1⟩) ++ z) (pre.length : Int)) (l.map fun s => (⟨s.f0, s.f1⟩ : S30))
  | [], pre, e, z, hz => by
    subst e
    have : z = [] := List.length_eq_zero_iff.1 hz
    subst this
    refine Ev.round (f := fun _ => some _) (fun k => ?_) (Ev.now _)
    simp only [laws_toSpotS.l0]
    rw [if_neg (by simp)]
    simp
  | x :: suf, pre, e, [], hz => by simp at hz
  | x :: suf, pre, e, y :: z, hz => by
    subst e
    have ih := ev_toSpotS_l (pre ++ x :: suf) hn suf (pre ++ [x]) (snoc_mid _ _ _) z (by simpa using hz)
    refine Ev.round (fun k => ?_) ih
    simp only [laws_toSpotS.l0]
    have hr : rd_T27 (pre ++ x :: suf) (pre.length : Int) = x := getD_mid _ pre suf x
    rw [if_pos (lt_mid _ _ _), if_pos (by omega), hr]
    simp only [laws_toSpot.f, Option.bind_some]
    rw [if_pos (by simp; omega), up_mid pre suf x (by omega)]
    congr 1
    rw [Int.toNat_natCast, List.set_append_right _ _ (by simp)]
    simp
theorem ev_toSpotS (l : List S27) (hn : l.length ≤ 17592186044416) : Ev (fun k => laws_toSpotS.f k l) (l.map fun s => (⟨s.f0, s.f1⟩ : S30)) := by
  have h := ev_toSpotS_l l hn l [] rfl (List.replicate l.length z30) (by simp)
  refine Ev.eqv (fun k => ?_) h
  unfold laws_toSpotS.f
  rw [if_pos (by omega), Int.toNat_natCast, if_pos hn]
  rfl

theorem eqSpot_eq (a b c d : Int) : laws_eqSpot.f a b c d = some (decide (a = c) && decide (b = d)) := by
  unfold laws_eqSpot.f
  by_cases e : a = c
  · by_cases e' : b = d
    · simp [e, e']
    · simp [e, e']
  · simp [e]
theorem ev_eqSpotS_l (l : List S30) (hn : l.length ≤ 9223372036854775807) : ∀ (suf pre : List S30), l = pre ++ suf → Ev (fun k => laws_eqSpotS.l0 k l l (pre.length : Int)) true
  | [], pre, e => by
    subst e
    refine Ev.round (f := fun _ => some true) (fun k => ?_) (Ev.now _)
    simp only [laws_eqSpotS.l0]
    rw [if_neg (by simp)]
  | x :: suf, pre, e => by
    subst e
    have ih := ev_eqSpotS_l (pre ++ x :: suf) hn suf (pre ++ [x]) (snoc_mid _ _ _)
    refine Ev.round (fun k => ?_) ih
    simp only [laws_eqSpotS.l0]
    have hr : rd_T30 (pre ++ x :: suf) (pre.length : Int) = x := getD_mid _ pre suf x
    rw [if_pos (lt_mid _ _ _), if_pos (by omega), if_pos (lt_mid _ _ _), hr, eqSpot_eq]
    simp only [Option.bind_some, decide_true, Bool.and_self, if_true]
    rw [up_mid _ _ _ hn]
theorem ev_eqSpotS (l : List S30) (hn : l.length ≤ 9223372036854775807) : Ev (fun k => laws_eqSpotS.f k l l) true := by
  unfold laws_eqSpotS.f
  exact Ev.ite_pos rfl (ev_eqSpotS_l l hn l [] rfl)

theorem spot_spec (a b : Int) : spec_l11Spot.f a b = some (impl_GoodStops.p ⟨a, b⟩) := by
  unfold spec_l11Spot.f impl_GoodStops.p
  rw [in_eq]; simp only [Option.bind_some]
  cases (decide (0 ≤ a) && decide (a ≤ 9))
  · simp
  · simp [in_eq]
def goodStops (l : List S30) : Bool := (decide (1 ≤ (l.length : Int)) && decide ((l.length : Int) ≤ 7)) && l.all impl_GoodStops.p
theorem ev_GoodStops_l (l : List S30) (hn : l.length ≤ 9223372036854775807) : ∀ (suf pre : List S30), l = pre ++ suf → Ev (fun k => spec_GoodStops.l0 k l l (l.length : Int) (pre.length : Int)) ((decide (1 ≤ (l.length : Int)) && decide ((l.length : Int) ≤ 7)) && suf.all impl_GoodStops.p)
  | [], pre, e => by
    refine Ev.round (f := fun _ => some (decide (1 ≤ (l.length : Int)) && decide ((l.length : Int) ≤ 7))) (fun k => ?_) (Ev.cast (Ev.now _) (by simp))
    simp only [spec_GoodStops.l0]
    rw [if_neg (by subst e; simp), in_eq]
    rfl
  | x :: suf, pre, e => by
    subst e
    have hr : rd_T30 (pre ++ x :: suf) (pre.length : Int) = x := getD_mid _ pre suf x
    cases c : impl_GoodStops.p x with
    | true =>
      have ih := ev_GoodStops_l (pre ++ x :: suf) hn suf (pre ++ [x]) (snoc_mid _ _ _)
      refine Ev.round (fun k => ?_) (Ev.cast ih (by rw [List.all_cons, c, Bool.true_and]))
      simp only [spec_GoodStops.l0]
      rw [if_pos (lt_mid _ _ _), if_pos (by omega), if_pos (lt_mid _ _ _), hr, spot_spec, Option.bind_some, if_pos c, up_mid _ _ _ hn]
    | false =>
      refine Ev.round (f := fun _ => some false) (fun k => ?_) (Ev.cast (Ev.now _) (by rw [List.all_cons, c, Bool.false_and, Bool.and_false]))
      simp only [spec_GoodStops.l0]
      have c' : ¬ impl_GoodStops.p (⟨x.f0, x.f1⟩ : S30) = true := by show ¬ impl_GoodStops.p x = true; rw [c]; decide
      rw [if_pos (lt_mid _ _ _), if_pos (by omega), if_pos (lt_mid _ _ _), hr, spot_spec, Option.bind_some, if_neg c']
theorem ev_GoodStops (l : List S30) (hn : l.length ≤ 9223372036854775807) : Ev (fun k => spec_GoodStops.f k l) (goodStops l) := ev_GoodStops_l l hn l [] rfl
theorem implGoodStops (l : List S30) : impl_GoodStops.f l = some (goodStops l) := rfl

/- FnExactGoodStops: at every list of spots at most 1048576 long the program's GoodStops answers as the reference's, and leaves its argument as it was. -/
theorem FnExactGoodStops : laws_FnExactGoodStops.Pure := by
  intro l0 ⟨hm, hw⟩
  apply Ev.rounds
  unfold laws_FnExactGoodStops.f
  unfold maxLen at hm
  have hz : wrap64 (1048576 - (l0.length : Int)) = 1048576 - (l0.length : Int) := by unfold wrap64; omega
  unfold laws_szSpotS.f
  rw [hz]
  by_cases h : 1048576 - (l0.length : Int) < 0
  · rw [if_pos h]
    exact Ev.bindc rfl (Ev.ite_pos (by decide) (Ev.now _))
  rw [if_neg h]
  refine Ev.bindc rfl (Ev.ite_neg h ?_)
  have ht := ev_toSpotS l0 (by omega)
  have hl : (l0.map fun s => (⟨s.f0, s.f1⟩ : S30)).length = l0.length := by simp
  refine Ev.bind ht (Ev.bind (ev_GoodStops _ (by omega)) (Ev.bind ht (Ev.bindc (implGoodStops _) ?_)))
  refine Ev.ite_neg (by simp) (Ev.bind ht (Ev.bind (ev_eqSpotS _ (by omega)) ?_))
  exact Ev.ite_pos rfl (Ev.now _)

end Go.Proofs.Ytopnbfifbccegaa.Pure
