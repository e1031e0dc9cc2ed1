import Derived.Test.YtopnbfifbccegaaGA1
import Derived.Test.YtopnbfifbccegaaGA2
import Derived.Test.YtopnbfifbccegaaGA5
import Derived.Test.YtopnbfifbccegaaGA6
import Derived.Test.YtopnbfifbccegaaCom
namespace Go.Proofs.Ytopnbfifbccegaa.Pure
open Go.RowKit Go.Proofs.Ytopnbfifbccegaa.GA Go.Proofs.YtopnbfifbccegaaW.PrintWords Go.Proofs.YtopnbfifbccegaaW.PrintLast Go.Proofs.YtopnbfifbccegaaW.PrintMore Go.Proofs.YtopnbfifbccegaaW.PrintOwn
set_option linter.unusedVariables false
set_option linter.unusedSimpArgs false
-- spots and ways: both texts, as one plain function
def spotB (a b : Int) : Bool := decide (0 ≤ a) && decide (a ≤ 9) && (decide (0 ≤ b) && decide (b ≤ 20))
theorem spot_spec (a b : Int) : spec_l11Spot.f a b = some (spotB a b) := by
  unfold spec_l11Spot.f spotB
  rw [in_eq]; simp only [Option.bind_some]
  cases (decide (0 ≤ a) && decide (a ≤ 9))
  · simp
  · simp [in_eq]
theorem spot_impl (a b : Int) : impl_isSpot.f a b = some (spotB a b) := by
  unfold impl_isSpot.f spotB
  rw [within_eq]; simp only [Option.bind_some]
  cases (decide (0 ≤ a) && decide (a ≤ 9))
  · simp
  · simp [within_eq]
theorem spotB_iff {a b : Int} (h : spotB a b = true) : 0 ≤ a ∧ a ≤ 9 ∧ 0 ≤ b ∧ b ≤ 20 := by
  simp [spotB] at h
  omega
/-- The way between two spots. -/
def wayZ (a b c d : Int) : Int := if a = c then (if b < d then d - b else b - d) else 3 * (if a < c then c - a else a - c) + (if 40 - (b + d) < b + d then 40 - (b + d) else b + d)
theorem way_spec {a b c d : Int} (h : 0 ≤ a ∧ a ≤ 9 ∧ 0 ≤ b ∧ b ≤ 20) (k : 0 ≤ c ∧ c ≤ 9 ∧ 0 ≤ d ∧ d ≤ 20) : spec_l11Way.f a b c d = some (wayZ a b c d) := by
  have w1 : wrap64 (b - d) = b - d := by unfold wrap64; omega
  have w2 : wrap64 (b + d) = b + d := by unfold wrap64; omega
  have w3 : wrap64 (40 - (b + d)) = 40 - (b + d) := by unfold wrap64; omega
  have w4 : wrap64 (a - c) = a - c := by unfold wrap64; omega
  have w5 : wrap64 (-(a - c)) = c - a := by unfold wrap64; omega
  have w6 : wrap64 (-(b - d)) = d - b := by unfold wrap64; omega
  have w7 : wrap64 (3 * (a - c)) = 3 * (a - c) := by unfold wrap64; omega
  have w8 : wrap64 (3 * (c - a)) = 3 * (c - a) := by unfold wrap64; omega
  have w9 : wrap64 (3 * (a - c) + (b + d)) = 3 * (a - c) + (b + d) := by unfold wrap64; omega
  have w10 : wrap64 (3 * (c - a) + (b + d)) = 3 * (c - a) + (b + d) := by unfold wrap64; omega
  have w11 : wrap64 (3 * (a - c) + (40 - (b + d))) = 3 * (a - c) + (40 - (b + d)) := by unfold wrap64; omega
  have w12 : wrap64 (3 * (c - a) + (40 - (b + d))) = 3 * (c - a) + (40 - (b + d)) := by unfold wrap64; omega
  unfold spec_l11Way.f wayZ spec_l1Abs.f
  simp only [w1, w2, w3, w4]
  by_cases e : a = c
  · rw [if_pos e, if_pos e]
    by_cases l : b - d < 0
    · rw [if_pos l, if_pos (by omega)]; simp [w6]
    · rw [if_neg l, if_neg (by omega)]; simp
  · rw [if_neg e, if_neg e]
    by_cases m : 40 - (b + d) < b + d
    · rw [if_pos m, if_pos m]
      by_cases l : a - c < 0
      · rw [if_pos l, if_pos (by omega)]; simp [w5, w8, w12]
      · rw [if_neg l, if_neg (by omega)]; simp [w7, w11]
    · rw [if_neg m, if_neg m]
      by_cases l : a - c < 0
      · rw [if_pos l, if_pos (by omega)]; simp [w5, w8, w10]
      · rw [if_neg l, if_neg (by omega)]; simp [w7, w9]
theorem way_impl {a b c d : Int} (h : 0 ≤ a ∧ a ≤ 9 ∧ 0 ≤ b ∧ b ≤ 20) (k : 0 ≤ c ∧ c ≤ 9 ∧ 0 ≤ d ∧ d ≤ 20) : impl_way.f a b c d = some (wayZ a b c d) := by
  have w1 : wrap64 (b - d) = b - d := by unfold wrap64; omega
  have w1' : wrap64 (d - b) = d - b := by unfold wrap64; omega
  have w2 : wrap64 (b + d) = b + d := by unfold wrap64; omega
  have w3 : wrap64 (40 - (b + d)) = 40 - (b + d) := by unfold wrap64; omega
  have w4 : wrap64 (a - c) = a - c := by unfold wrap64; omega
  have w4' : wrap64 (c - a) = c - a := by unfold wrap64; omega
  unfold impl_way.f wayZ
  simp only [w1, w1', w2, w3, w4, w4']
  by_cases e : a = c
  · rw [if_pos e, if_pos e]
    congr 1
    unfold mx
    split <;> split <;> omega
  · rw [if_neg e, if_neg e]
    congr 1
    have hm : mx (a - c) (c - a) = if a < c then c - a else a - c := by unfold mx; split <;> split <;> omega
    have hn : mn (b + d) (40 - (b + d)) = if 40 - (b + d) < b + d then 40 - (b + d) else b + d := by unfold mn; split <;> rfl
    rw [hm, hn]
    have w7 : wrap64 (3 * (if a < c then c - a else a - c)) = 3 * (if a < c then c - a else a - c) := by unfold wrap64; split <;> omega
    rw [w7]
    unfold wrap64
    split <;> split <;> omega

/- FnExactWayBetween: at all spots the program's WayBetween answers as the reference's. -/
theorem FnExactWayBetween : laws_FnExactWayBetween.Pure := by
  intro a b c d _ _ _ _
  obtain ⟨r, hs, hi⟩ : ∃ r : Int × Bool, spec_WayBetween.f a b c d = some r ∧ impl_WayBetween.f a b c d = some r := by
    unfold spec_WayBetween.f impl_WayBetween.f
    rw [spot_spec, spot_impl]
    simp only [Option.bind_some]
    by_cases h1 : spotB a b = true
    · rw [if_pos h1, if_pos h1, spot_spec, spot_impl]
      simp only [Option.bind_some]
      by_cases h2 : spotB c d = true
      · rw [if_pos h2, if_pos h2, way_spec (spotB_iff h1) (spotB_iff h2), way_impl (spotB_iff h1) (spotB_iff h2)]
        exact ⟨_, rfl, rfl⟩
      · rw [if_neg h2, if_neg h2]
        exact ⟨_, rfl, rfl⟩
    · rw [if_neg h1, if_neg h1]
      exact ⟨_, rfl, rfl⟩
  unfold laws_FnExactWayBetween.f laws_toSpot.f
  simp only [Option.bind_some]
  rw [hs]
  simp only [Option.bind_some]
  rw [hi]
  simp

end Go.Proofs.Ytopnbfifbccegaa.Pure
