import Derived.Test.YtcbjfnkeieeecaaGLTreeTour0
import Derived.Test.YtcbjfnkeieeecaaGLTreeTour1
import Derived.Test.YtcbjfnkeieeecaaGLTreeTour2
import Derived.Test.YtcbjfnkeieeecaaGLTreeTour3
import Derived.Test.YtcbjfnkeieeecaaGLTreeTour4
import Derived.Test.YtcbjfnkeieeecaaGLTreeTour5
import Derived.Test.YtcbjfnkeieeecaaGLTreeTour6
import Derived.Test.YtcbjfnkeieeecaaGLTreeTour7
import Derived.Test.YtcbjfnkeieeecaaGLTreeTour8
import Derived.Test.YtcbjfnkeieeecaaGLTreeTour9
namespace Go.Proofs.Ytcbjfnkeieeecaa.Pure
open Go.RowKit Go.Proofs.Ytcbjfnkeieeecaa.GLTreeTour Go.Proofs.YtcbjfnkeieeecaaW.PrintWords Go.Proofs.YtcbjfnkeieeecaaW.PrintLast Go.Proofs.YtcbjfnkeieeecaaW.PrintMore Go.Proofs.YtcbjfnkeieeecaaW.PrintOwn
set_option linter.unusedVariables false
set_option linter.unusedSimpArgs false
theorem Ev.bindc {α β : Type} {g : Option α} {f : Nat → α → Option β} {a : α} {r : β} (h : g = some a) (k : Ev (fun n => f n a) r) : Ev (fun n => g.bind (f n)) r := by
  subst h
  exact k
/-- One round. -/
theorem Ev.round {α : Type} {g f : Nat → Option α} {r : α} (h : ∀ k, g (k + 1) = f k) (k : Ev f r) : Ev g r := Ev.step h k
theorem Ev.eqv {α : Type} {g f : Nat → Option α} {r : α} (h : ∀ k, g k = f k) (k : Ev f r) : Ev g r := Ev.congr h k
theorem Ev.cast {α : Type} {g : Nat → Option α} {r r' : α} (h : Ev g r) (e : r = r') : Ev g r' := e ▸ h
theorem Ev.ite_pos {α : Type} {c : Prop} [Decidable c] {g f : Nat → Option α} {r : α} (hc : c) (k : Ev g r) : Ev (fun n => if c then g n else f n) r := by
  refine Ev.eqv (fun n => ?_) k
  rw [if_pos hc]
theorem Ev.ite_neg {α : Type} {c : Prop} [Decidable c] {g f : Nat → Option α} {r : α} (hc : ¬ c) (k : Ev f r) : Ev (fun n => if c then g n else f n) r := by
  refine Ev.eqv (fun n => ?_) k
  rw [if_neg hc]
theorem getD_mid {α : Type} (d : α) (pre suf : List α) (x : α) : (pre ++ x :: suf).getD (pre.length : Int).toNat d = x := by
  rw [Int.toNat_natCast, List.getD_eq_getElem?_getD, List.getElem?_append_right (Nat.le_refl _), Nat.sub_self]
  rfl
theorem rd_mid (pre suf : List Int) (x : Int) : rd (pre ++ x :: suf) (pre.length : Int) = x := getD_mid 0 pre suf x
theorem lt_mid {α : Type} (pre suf : List α) (x : α) : (pre.length : Int) < ((pre ++ x :: suf).length : Int) := by
  rw [List.length_append, List.length_cons]; omega
theorem up_mid {α : Type} (pre suf : List α) (x : α) (h : (pre ++ x :: suf).length ≤ 9223372036854775807) : wrap64 ((pre.length : Int) + 1) = ((pre ++ [x]).length : Int) := by
  rw [List.length_append, List.length_cons] at h
  rw [List.length_append, List.length_singleton]
  unfold wrap64
  omega
theorem snoc_mid {α : Type} (pre suf : List α) (x : α) : pre ++ x :: suf = (pre ++ [x]) ++ suf := by simp
theorem ev_eqIntS_l (a b : List Int) (hab : a.length = b.length) (hn : a.length ≤ 9223372036854775807) : ∀ (sa pa sb pb : List Int), a = pa ++ sa → b = pb ++ sb → pa.length = pb.length → Ev (fun k => laws_eqIntS.l0 k a b (pa.length : Int)) (decide (sa = sb))
  | [], pa, sb, pb, ea, eb, hp => by
    subst ea
    refine Ev.round (f := fun _ => some true) (fun k => ?_) (Ev.cast (Ev.now _) ?_)
    · simp only [laws_eqIntS.l0]
      rw [if_neg (by simp)]
    · have : sb = [] := by
        rw [eb] at hab
        simp at hab
        exact List.length_eq_zero_iff.1 (by omega)
      rw [this]; rfl
  | x :: sa, pa, [], pb, ea, eb, hp => by
    rw [ea, eb] at hab
    simp at hab
    omega
  | x :: sa, pa, y :: sb, pb, ea, eb, hp => by
    subst ea
    subst eb
    have h1 : ((pa.length : Nat) : Int) = (pb.length : Int) := by omega
    by_cases e : x = y
    · subst e
      have ih := ev_eqIntS_l (pa ++ x :: sa) (pb ++ x :: sb) hab hn sa (pa ++ [x]) sb (pb ++ [x]) (snoc_mid _ _ _) (snoc_mid _ _ _) (by simp [hp])
      refine Ev.round (fun k => ?_) (Ev.cast ih (by simp))
      simp only [laws_eqIntS.l0]
      rw [if_pos (lt_mid _ _ _), if_pos (by omega), if_pos (by rw [h1]; exact lt_mid _ _ _), rd_mid, h1, rd_mid, if_pos rfl, ← h1, up_mid _ _ _ hn]
    · refine Ev.round (f := fun _ => some false) (fun k => ?_) (Ev.cast (Ev.now _) (by simp [e]))
      simp only [laws_eqIntS.l0]
      rw [if_pos (lt_mid _ _ _), if_pos (by omega), if_pos (by rw [h1]; exact lt_mid _ _ _), rd_mid, h1, rd_mid, if_neg e]
theorem ev_eqIntS (a b : List Int) (hn : a.length ≤ 9223372036854775807) : Ev (fun k => laws_eqIntS.f k a b) (decide (a = b)) := by
  unfold laws_eqIntS.f
  by_cases h : a.length = b.length
  · exact Ev.ite_pos (by omega) (ev_eqIntS_l a b h hn a [] b [] rfl rfl rfl)
  · refine Ev.ite_neg (by omega) (Ev.cast (Ev.now _) ?_)
    rw [decide_eq_false]
    rintro rfl
    exact h rfl
theorem in_eq (a lo hi : Int) : spec_l1In.f a lo hi = some (decide (lo ≤ a) && decide (a ≤ hi)) := by
  unfold spec_l1In.f
  by_cases h : a ≥ lo
  · rw [if_pos h]; simp [h]
  · rw [if_neg h]; simp [h]
theorem ev_l1Has_l (l : List Int) (n : Int) (hn : l.length ≤ 9223372036854775807) : ∀ (suf pre : List Int), l = pre ++ suf → Ev (fun k => spec_l1Has.l0 k n l (l.length : Int) (pre.length : Int)) (decide (n ∈ suf))
  | [], pre, e => by
    subst e
    refine Ev.round (f := fun _ => some false) (fun k => ?_) (Ev.cast (Ev.now _) (by simp))
    simp only [spec_l1Has.l0]
    rw [if_neg (by simp)]
  | x :: suf, pre, e => by
    subst e
    by_cases c : x = n
    · refine Ev.round (f := fun _ => some true) (fun k => ?_) (Ev.cast (Ev.now _) (by simp [c]))
      simp only [spec_l1Has.l0]
      rw [if_pos (lt_mid _ _ _), if_pos (by omega), if_pos (lt_mid _ _ _), rd_mid, if_pos c]
    · have ih := ev_l1Has_l (pre ++ x :: suf) n hn suf (pre ++ [x]) (snoc_mid _ _ _)
      refine Ev.round (fun k => ?_) (Ev.cast ih (by simp [Ne.symm c]))
      simp only [spec_l1Has.l0]
      rw [if_pos (lt_mid _ _ _), if_pos (by omega), if_pos (lt_mid _ _ _), rd_mid, if_neg c, up_mid _ _ _ hn]
theorem ev_l1Has (l : List Int) (n : Int) (hn : l.length ≤ 9223372036854775807) : Ev (fun k => spec_l1Has.f k l n) (decide (n ∈ l)) := ev_l1Has_l l n hn l [] rfl
/-- n numbers from a on. -/
def upFrom (a : Int) : Nat → List Int
  | 0 => []
  | n + 1 => a :: upFrom (a + 1) n
theorem ev_markIntS_l : ∀ (suf pre : List Int) (a : Int), 0 ≤ a → a + suf.length ≤ 4611686018427387904 → pre.length + suf.length ≤ 4611686018427387904 → Ev (fun k => laws_markIntS.l0 k (pre ++ suf) a (pre.length : Int)) (a + suf.length, pre ++ upFrom a suf.length)
  | [], pre, a, h0, h1, h2 => by
    refine Ev.round (f := fun _ => some (a, pre ++ [])) (fun k => ?_) (Ev.cast (Ev.now _) (by simp [upFrom]))
    simp only [laws_markIntS.l0]
    rw [if_neg (by simp)]
  | x :: suf, pre, a, h0, h1, h2 => by
    rw [List.length_cons] at h1 h2
    have ih := ev_markIntS_l suf (pre ++ [a]) (a + 1) (by omega) (by omega) (by simp; omega)
    refine Ev.round (fun k => ?_) (Ev.cast ih (by rw [List.length_cons, upFrom]; simp; omega))
    simp only [laws_markIntS.l0]
    have hw : wrap64 (a + 1) = a + 1 := by unfold wrap64; omega
    have hw2 : wrap64 ((pre.length : Int) + 1) = ((pre ++ [a]).length : Int) := by unfold wrap64; simp; omega
    rw [if_pos (lt_mid _ _ _), if_pos (by omega), hw, hw2, Int.toNat_natCast, List.set_append_right _ _ (Nat.le_refl _), Nat.sub_self, List.set_cons_zero]
    simp
theorem ev_markIntS (l : List Int) (a : Int) (h0 : 0 ≤ a) (h1 : a + l.length ≤ 4611686018427387904) : Ev (fun k => laws_markIntS.f k l a) (a + l.length, upFrom a l.length) := ev_markIntS_l l [] a h0 h1 (by simp; omega)
theorem ev_heldIntS_l : ∀ (n : Nat) (pre : List Int) (a : Int), 0 ≤ a → a + n ≤ 4611686018427387904 → pre.length + n ≤ 4611686018427387904 → Ev (fun k => laws_heldIntS.l0 k (pre ++ upFrom a n) a (pre.length : Int)) (a + n)
  | 0, pre, a, h0, h1, h2 => by
    refine Ev.round (f := fun _ => some a) (fun k => ?_) (Ev.cast (Ev.now _) (by simp))
    simp only [laws_heldIntS.l0]
    rw [if_neg (by simp [upFrom])]
  | n + 1, pre, a, h0, h1, h2 => by
    have ih := ev_heldIntS_l n (pre ++ [a]) (a + 1) (by omega) (by omega) (by simp; omega)
    refine Ev.round (fun k => ?_) (Ev.cast ih (by omega))
    rw [upFrom]
    simp only [laws_heldIntS.l0]
    have hw : wrap64 (a + 1) = a + 1 := by unfold wrap64; omega
    have hw2 : wrap64 ((pre.length : Int) + 1) = ((pre ++ [a]).length : Int) := by unfold wrap64; simp; omega
    rw [if_pos (lt_mid _ _ _), if_pos (by omega), rd_mid, if_pos rfl, hw, hw2]
    simp
theorem ev_heldIntS (a : Int) (n : Nat) (h0 : 0 ≤ a) (h1 : a + n ≤ 4611686018427387904) : Ev (fun k => laws_heldIntS.f k (upFrom a n) a) (a + n) := ev_heldIntS_l n [] a h0 h1 (by simp; omega)
/-- The way between two spots. -/
def wayZ (a b c d : Int) : Int := if a = c then (if b < d then d - b else b - d) else 3 * (if a < c then c - a else a - c) + (if 40 - (b + d) < b + d then 40 - (b + d) else b + d)
theorem way_spec {a b c d : Int} (h : 0 ≤ a ∧ a ≤ 9 ∧ 0 ≤ b ∧ b ≤ 20) (k : 0 ≤ c ∧ c ≤ 9 ∧ 0 ≤ d ∧ d ≤ 20) : spec_l11Way.f a b c d = some (wayZ a b c d) := by
  have w1 : wrap64 (b - d) = b - d := by unfold wrap64; omega
  have w2 : wrap64 (b + d) = b + d := by unfold wrap64; omega
  have w3 : wrap64 (40 - (b + d)) = 40 - (b + d) := by unfold wrap64; omega
  have w4 : wrap64 (a - c) = a - c := by unfold wrap64; omega
  have w5 : wrap64 (-(a - c)) = c - a := by unfold wrap64; omega
  have w6 : wrap64 (-(b - d)) = d - b := by unfold wrap64; omega
  have w7 : wrap64 (3 * (a - c)) = 3 * (a - c) := by unfold wrap64; omega
  have w8 : wrap64 (3 * (c - a)) = 3 * (c - a) := by unfold wrap64; omega
  have w9 : wrap64 (3 * (a - c) + (b + d)) = 3 * (a - c) + (b + d) := by unfold wrap64; omega
  have w10 : wrap64 (3 * (c - a) + (b + d)) = 3 * (c - a) + (b + d) := by unfold wrap64; omega
  have w11 : wrap64 (3 * (a - c) + (40 - (b + d))) = 3 * (a - c) + (40 - (b + d)) := by unfold wrap64; omega
  have w12 : wrap64 (3 * (c - a) + (40 - (b + d))) = 3 * (c - a) + (40 - (b + d)) := by unfold wrap64; omega
  unfold spec_l11Way.f wayZ spec_l1Abs.f
  simp only [w1, w2, w3, w4]
  by_cases e : a = c
  · rw [if_pos e, if_pos e]
    by_cases l : b - d < 0
    · rw [if_pos l, if_pos (by omega)]; simp [w6]
    · rw [if_neg l, if_neg (by omega)]; simp
  · rw [if_neg e, if_neg e]
    by_cases m : 40 - (b + d) < b + d
    · rw [if_pos m, if_pos m]
      by_cases l : a - c < 0
      · rw [if_pos l, if_pos (by omega)]; simp [w5, w8, w12]
      · rw [if_neg l, if_neg (by omega)]; simp [w7, w11]
    · rw [if_neg m, if_neg m]
      by_cases l : a - c < 0
      · rw [if_pos l, if_pos (by omega)]; simp [w5, w8, w10]
      · rw [if_neg l, if_neg (by omega)]; simp [w7, w9]
theorem way_impl {a b c d : Int} (h : 0 ≤ a ∧ a ≤ 9 ∧ 0 ≤ b ∧ b ≤ 20) (k : 0 ≤ c ∧ c ≤ 9 ∧ 0 ≤ d ∧ d ≤ 20) : impl_way.f a b c d = some (wayZ a b c d) := by
  have w1 : wrap64 (b - d) = b - d := by unfold wrap64; omega
  have w1' : wrap64 (d - b) = d - b := by unfold wrap64; omega
  have w2 : wrap64 (b + d) = b + d := by unfold wrap64; omega
  have w3 : wrap64 (40 - (b + d)) = 40 - (b + d) := by unfold wrap64; omega
  have w4 : wrap64 (a - c) = a - c := by unfold wrap64; omega
  have w4' : wrap64 (c - a) = c - a := by unfold wrap64; omega
  unfold impl_way.f wayZ
  simp only [w1, w1', w2, w3, w4, w4']
  by_cases e : a = c
  · rw [if_pos e, if_pos e]
    congr 1
    unfold mx
    split <;> split <;> omega
  · rw [if_neg e, if_neg e]
    congr 1
    have hm : mx (a - c) (c - a) = if a < c then c - a else a - c := by unfold mx; split <;> split <;> omega
    have hn : mn (b + d) (40 - (b + d)) = if 40 - (b + d) < b + d then 40 - (b + d) else b + d := by unfold mn; split <;> rfl
    rw [hm, hn]
    have w7 : wrap64 (3 * (if a < c then c - a else a - c)) = 3 * (if a < c then c - a else a - c) := by unfold wrap64; split <;> omega
    rw [w7]
    unfold wrap64
    split <;> split <;> omega
theorem ev_toSpotS_l (l : List S23) (hn : l.length ≤ 17592186044416) : ∀ (suf pre : List S23), l = pre ++ suf → ∀ (z : List S26), z.length = suf.length → Ev (fun k => laws_toSpotS.l0 k l (pre.map (fun s => ⟨s.f0, s.f1⟩) ++ z) (pre.length : Int)) (l.map fun s => (⟨s.f0, s.f1⟩ : S26))
  | [], pre, e, z, hz => by
    subst e
    have : z = [] := List.length_eq_zero_iff.1 hz
    subst this
    refine Ev.round (f := fun _ => some _) (fun k => ?_) (Ev.now _)
    simp only [laws_toSpotS.l0]
    rw [if_neg (by simp)]
    simp
  | x :: suf, pre, e, [], hz => by simp at hz
  | x :: suf, pre, e, y :: z, hz => by
    subst e
    have ih := ev_toSpotS_l (pre ++ x :: suf) hn suf (pre ++ [x]) (snoc_mid _ _ _) z (by simpa using hz)
    refine Ev.round (fun k => ?_) ih
    simp only [laws_toSpotS.l0]
    have hr : rd_T23 (pre ++ x :: suf) (pre.length : Int) = x := getD_mid _ pre suf x
    rw [if_pos (lt_mid _ _ _), if_pos (by omega), hr]
    simp only [laws_toSpot.f, Option.bind_some]
    rw [if_pos (by simp; omega), up_mid pre suf x (by omega)]
    congr 1
    rw [Int.toNat_natCast, List.set_append_right _ _ (by simp)]
    simp
theorem ev_toSpotS (l : List S23) (hn : l.length ≤ 17592186044416) : Ev (fun k => laws_toSpotS.f k l) (l.map fun s => (⟨s.f0, s.f1⟩ : S26)) := by
  have h := ev_toSpotS_l l hn l [] rfl (List.replicate l.length z26) (by simp)
  refine Ev.eqv (fun k => ?_) h
  unfold laws_toSpotS.f
  rw [if_pos (by omega), Int.toNat_natCast, if_pos hn]
  rfl
theorem eqSpot_eq (a b c d : Int) : laws_eqSpot.f a b c d = some (decide (a = c) && decide (b = d)) := by
  unfold laws_eqSpot.f
  by_cases e : a = c
  · by_cases e' : b = d
    · simp [e, e']
    · simp [e, e']
  · simp [e]
theorem ev_eqSpotS_l (l : List S26) (hn : l.length ≤ 9223372036854775807) : ∀ (suf pre : List S26), l = pre ++ suf → Ev (fun k => laws_eqSpotS.l0 k l l (pre.length : Int)) true
  | [], pre, e => by
    subst e
    refine Ev.round (f := fun _ => some true) (fun k => ?_) (Ev.now _)
    simp only [laws_eqSpotS.l0]
    rw [if_neg (by simp)]
  | x :: suf, pre, e => by
    subst e
    have ih := ev_eqSpotS_l (pre ++ x :: suf) hn suf (pre ++ [x]) (snoc_mid _ _ _)
    refine Ev.round (fun k => ?_) ih
    simp only [laws_eqSpotS.l0]
    have hr : rd_T26 (pre ++ x :: suf) (pre.length : Int) = x := getD_mid _ pre suf x
    rw [if_pos (lt_mid _ _ _), if_pos (by omega), if_pos (lt_mid _ _ _), hr, eqSpot_eq]
    simp only [Option.bind_some, decide_true, Bool.and_self, if_true]
    rw [up_mid _ _ _ hn]
theorem ev_eqSpotS (l : List S26) (hn : l.length ≤ 9223372036854775807) : Ev (fun k => laws_eqSpotS.f k l l) true := by
  unfold laws_eqSpotS.f
  exact Ev.ite_pos rfl (ev_eqSpotS_l l hn l [] rfl)
theorem spot_spec (a b : Int) : spec_l11Spot.f a b = some (impl_GoodStops.p ⟨a, b⟩) := by
  unfold spec_l11Spot.f impl_GoodStops.p
  rw [in_eq]; simp only [Option.bind_some]
  cases (decide (0 ≤ a) && decide (a ≤ 9))
  · simp
  · simp [in_eq]
def goodStops (l : List S26) : Bool := (decide (1 ≤ (l.length : Int)) && decide ((l.length : Int) ≤ 7)) && l.all impl_GoodStops.p
theorem ev_GoodStops_l (l : List S26) (hn : l.length ≤ 9223372036854775807) : ∀ (suf pre : List S26), l = pre ++ suf → Ev (fun k => spec_GoodStops.l0 k l l (l.length : Int) (pre.length : Int)) ((decide (1 ≤ (l.length : Int)) && decide ((l.length : Int) ≤ 7)) && suf.all impl_GoodStops.p)
  | [], pre, e => by
    refine Ev.round (f := fun _ => some (decide (1 ≤ (l.length : Int)) && decide ((l.length : Int) ≤ 7))) (fun k => ?_) (Ev.cast (Ev.now _) (by simp))
    simp only [spec_GoodStops.l0]
    rw [if_neg (by subst e; simp), in_eq]
    rfl
  | x :: suf, pre, e => by
    subst e
    have hr : rd_T26 (pre ++ x :: suf) (pre.length : Int) = x := getD_mid _ pre suf x
    cases c : impl_GoodStops.p x with
    | true =>
      have ih := ev_GoodStops_l (pre ++ x :: suf) hn suf (pre ++ [x]) (snoc_mid _ _ _)
      refine Ev.round (fun k => ?_) (Ev.cast ih (by rw [List.all_cons, c, Bool.true_and]))
      simp only [spec_GoodStops.l0]
      rw [if_pos (lt_mid _ _ _), if_pos (by omega), if_pos (lt_mid _ _ _), hr, spot_spec, Option.bind_some, if_pos c, up_mid _ _ _ hn]
    | false =>
      refine Ev.round (f := fun _ => some false) (fun k => ?_) (Ev.cast (Ev.now _) (by rw [List.all_cons, c, Bool.false_and, Bool.and_false]))
      simp only [spec_GoodStops.l0]
      have c' : ¬ impl_GoodStops.p (⟨x.f0, x.f1⟩ : S26) = true := by show ¬ impl_GoodStops.p x = true; rw [c]; decide
      rw [if_pos (lt_mid _ _ _), if_pos (by omega), if_pos (lt_mid _ _ _), hr, spot_spec, Option.bind_some, if_neg c']
theorem ev_GoodStops (l : List S26) (hn : l.length ≤ 9223372036854775807) : Ev (fun k => spec_GoodStops.f k l) (goodStops l) := ev_GoodStops_l l hn l [] rfl
theorem implGoodStops (l : List S26) : impl_GoodStops.f l = some (goodStops l) := rfl
/-- The way between two stops by their numbers. -/
def wy (L : List S26) (i k : Int) : Int := wayZ (rd_T26 L i).f0 (rd_T26 L i).f1 (rd_T26 L k).f0 (rd_T26 L k).f1
theorem stop_ok {L : List S26} (hg : ∀ s ∈ L, impl_GoodStops.p s = true) {i : Int} (h0 : 0 ≤ i) (h1 : i < (L.length : Int)) : 0 ≤ (rd_T26 L i).f0 ∧ (rd_T26 L i).f0 ≤ 9 ∧ 0 ≤ (rd_T26 L i).f1 ∧ (rd_T26 L i).f1 ≤ 20 := by
  have h := hg (rd_T26 L i) (getD_mem _ (by omega))
  unfold impl_GoodStops.p at h
  simp at h
  omega
theorem wy_spec {L : List S26} (hg : ∀ s ∈ L, impl_GoodStops.p s = true) {i k : Int} (h0 : 0 ≤ i) (h1 : i < (L.length : Int)) (k0 : 0 ≤ k) (k1 : k < (L.length : Int)) :
    spec_l11Way.f (rd_T26 L i).f0 (rd_T26 L i).f1 (rd_T26 L k).f0 (rd_T26 L k).f1 = some (wy L i k) := way_spec (stop_ok hg h0 h1) (stop_ok hg k0 k1)
theorem wy_impl {L : List S26} (hg : ∀ s ∈ L, impl_GoodStops.p s = true) {i k : Int} (h0 : 0 ≤ i) (h1 : i < (L.length : Int)) (k0 : 0 ≤ k) (k1 : k < (L.length : Int)) :
    impl_way.f (rd_T26 L i).f0 (rd_T26 L i).f1 (rd_T26 L k).f0 (rd_T26 L k).f1 = some (wy L i k) := way_impl (stop_ok hg h0 h1) (stop_ok hg k0 k1)
theorem ev_markSpotS_l : ∀ (n : Nat) (l : List S26) (j : Nat) (a : Int), j + n = l.length → l.length ≤ 4611686018427387904 → 0 ≤ a → a + 2 * n ≤ 4611686018427387904 → ∃ l', Ev (fun k => laws_markSpotS.l0 k l a (j : Int)) (a + 2 * n, l')
  | 0, l, j, a, hj, hl, h0, h9 => by
    refine ⟨l, Ev.round (f := fun _ => some (a, l)) (fun k => ?_) (Ev.cast (Ev.now _) (by simp))⟩
    simp only [laws_markSpotS.l0]
    rw [if_neg (by omega)]
  | n + 1, l, j, a, hj, hl, h0, h9 => by
    have w1 : wrap64 (a + 1) = a + 1 := by unfold wrap64; omega
    have w2 : wrap64 (a + 1 + 1) = a + 2 := by unfold wrap64; omega
    have w3 : wrap64 ((j : Int) + 1) = ((j + 1 : Nat) : Int) := by unfold wrap64; omega
    obtain ⟨l', h⟩ := ev_markSpotS_l n ((l.set (j : Int).toNat (⟨a, (rd_T26 l (j : Int)).f1⟩ : S26)).set (j : Int).toNat (⟨(rd_T26 (l.set (j : Int).toNat (⟨a, (rd_T26 l (j : Int)).f1⟩ : S26)) (j : Int)).f0, a + 1⟩ : S26)) (j + 1) (a + 2) (by simp; omega) (by simpa using hl) (by omega) (by omega)
    refine ⟨l', Ev.round (fun k => ?_) (Ev.cast h (by congr 1; omega))⟩
    simp only [laws_markSpotS.l0]
    rw [if_pos (by omega), if_pos (by omega), Option.bind_some, w1, w2, w3]
theorem ev_markSpotS (l : List S26) (a : Int) (hl : l.length ≤ 1048576) (h0 : 0 ≤ a) (h9 : a ≤ 1073741824) : ∃ l', Ev (fun k => laws_markSpotS.f k l a) (a + 2 * l.length, l') := by
  obtain ⟨l', h⟩ := ev_markSpotS_l l.length l 0 a (by omega) (by omega) h0 (by omega)
  exact ⟨l', h⟩
def nearS (L : List S26) (J : Int → Bool) (x k nb : Int) : Int := if J k = true then (if nb < 0 then k else if wy L x k < wy L x nb then k else nb) else nb
def nearF (L : List S26) (J : Int → Bool) (x : Int) : Nat → Int → Int → Int
  | 0, _, nb => nb
  | m + 1, k, nb => nearF L J x m (k + 1) (nearS L J x k nb)
def scanS (L : List S26) (J : Int → Bool) (i k : Int) (s : Int × Int) : Int × Int := if J k = true then (if s.1 < 0 then (i, k) else if wy L i k < wy L s.1 s.2 then (i, k) else s) else s
def scanF (L : List S26) (J : Int → Bool) (i : Int) : Nat → Int → Int × Int → Int × Int
  | 0, _, s => s
  | m + 1, k, s => scanF L J i m (k + 1) (scanS L J i k s)
def comb (L : List S26) (i : Int) (s : Int × Int) (nb : Int) : Int × Int := if 0 ≤ nb ∧ (s.1 < 0 ∨ wy L i nb < wy L s.1 s.2) then (i, nb) else s
theorem comb_step (L : List S26) (J : Int → Bool) (i k : Int) (s : Int × Int) (nb : Int) (hi : 0 ≤ i) (hk : 0 ≤ k) : scanS L J i k (comb L i s nb) = comb L i s (nearS L J i k nb) := by
  unfold scanS nearS
  by_cases hj : J k = true
  · rw [if_pos hj, if_pos hj]
    by_cases hn : nb < 0
    · have hc : comb L i s nb = s := by unfold comb; rw [if_neg (by omega)]
      rw [hc, if_pos hn]
      unfold comb
      by_cases h1 : s.1 < 0
      · rw [if_pos h1, if_pos ⟨hk, Or.inl h1⟩]
      · rw [if_neg h1]
        by_cases h2 : wy L i k < wy L s.1 s.2
        · rw [if_pos h2, if_pos ⟨hk, Or.inr h2⟩]
        · rw [if_neg h2, if_neg (by omega)]
    · rw [if_neg hn]
      unfold comb
      by_cases hc : 0 ≤ nb ∧ (s.1 < 0 ∨ wy L i nb < wy L s.1 s.2)
      · rw [if_pos hc, if_neg (show ¬ i < 0 by omega)]
        by_cases h2 : wy L i k < wy L i nb
        · rw [if_pos h2, if_pos h2, if_pos ⟨hk, by omega⟩]
        · rw [if_neg h2, if_neg h2, if_pos hc]
      · rw [if_neg hc, if_neg (by omega)]
        by_cases h2 : wy L i k < wy L i nb
        · rw [if_pos h2]
          by_cases h3 : wy L i k < wy L s.1 s.2
          · rw [if_pos h3, if_pos ⟨hk, Or.inr h3⟩]
          · rw [if_neg h3, if_neg (by omega)]
        · rw [if_neg h2, if_neg hc, if_neg (by omega)]
  · rw [if_neg hj, if_neg hj]
theorem scan_near (L : List S26) (J : Int → Bool) (i : Int) (s : Int × Int) (hi : 0 ≤ i) : ∀ (m : Nat) (k nb : Int), 0 ≤ k → scanF L J i m k (comb L i s nb) = comb L i s (nearF L J i m k nb)
  | 0, _, _, _ => rfl
  | m + 1, k, nb, hk => by
    rw [scanF, nearF, comb_step L J i k s nb hi hk]
    exact scan_near L J i s hi m (k + 1) _ (by omega)
theorem comb_none (L : List S26) (i : Int) (s : Int × Int) : comb L i s (-1) = s := by
  unfold comb
  rw [if_neg (by omega)]
/-- What has been found is joined, and in range. -/
def Fnd (J : Int → Bool) (n nb : Int) : Prop := nb = -1 ∨ (0 ≤ nb ∧ nb < n ∧ J nb = true)
theorem nearF_ok (L : List S26) (J : Int → Bool) (x n : Int) : ∀ (m : Nat) (k nb : Int), 0 ≤ k → k + m = n → Fnd J n nb → Fnd J n (nearF L J x m k nb)
  | 0, _, _, _, _, h => h
  | m + 1, k, nb, hk, hm, h => by
    rw [nearF]
    refine nearF_ok L J x n m (k + 1) _ (by omega) (by omega) ?_
    unfold nearS
    by_cases hj : J k = true
    · rw [if_pos hj]
      have hkk : Fnd J n k := Or.inr ⟨hk, by omega, hj⟩
      by_cases h1 : nb < 0
      · rw [if_pos h1]; exact hkk
      · rw [if_neg h1]
        by_cases h2 : wy L x k < wy L x nb
        · rw [if_pos h2]; exact hkk
        · rw [if_neg h2]; exact h
    · rw [if_neg hj]; exact h
theorem nearF_keeps (L : List S26) (J : Int → Bool) (x : Int) : ∀ (m : Nat) (k nb : Int), 0 ≤ k → 0 ≤ nb → 0 ≤ nearF L J x m k nb
  | 0, _, _, _, h => h
  | m + 1, k, nb, hk, h => by
    rw [nearF]
    refine nearF_keeps L J x m (k + 1) _ (by omega) ?_
    unfold nearS
    split
    · split
      · exact hk
      · split
        · exact hk
        · exact h
    · exact h
theorem nearF_pos (L : List S26) (J : Int → Bool) (x : Int) (hJ : J 0 = true) (m : Nat) (hm : 0 < m) : 0 ≤ nearF L J x m 0 (-1) := by
  cases m with
  | zero => omega
  | succ m =>
    rw [nearF]
    refine nearF_keeps L J x m _ _ (by omega) ?_
    unfold nearS
    rw [if_pos hJ, if_pos (by omega)]
    omega
def outF (L : List S26) (J : Int → Bool) : Nat → Int → Int × Int → Int × Int
  | 0, _, s => s
  | m + 1, i, s => outF L J m (i + 1) (if J i = true then s else comb L i s (nearF L J i L.length 0 (-1)))
theorem outF_init (L : List S26) (J : Int → Bool) (hn : ∀ i, 0 ≤ nearF L J i L.length 0 (-1)) : ∀ (m : Nat) (i : Int) (s s' : Int × Int), s.1 < 0 → s'.1 < 0 → (∃ j, i ≤ j ∧ j < i + m ∧ J j = false) → outF L J m i s = outF L J m i s'
  | 0, i, s, s', _, _, ⟨j, h1, h2, _⟩ => by omega
  | m + 1, i, s, s', hs, hs', ⟨j, h1, h2, h3⟩ => by
    rw [outF, outF]
    by_cases hj : J i = true
    · rw [if_pos hj, if_pos hj]
      have : j ≠ i := fun e => by rw [e, hj] at h3; cases h3
      exact outF_init L J hn m (i + 1) s s' hs hs' ⟨j, by omega, by omega, h3⟩
    · rw [if_neg hj, if_neg hj]
      unfold comb
      rw [if_pos ⟨hn i, Or.inl hs⟩, if_pos ⟨hn i, Or.inl hs'⟩]
/-- The pair is one that may be joined. -/
def Pair (J : Int → Bool) (n : Int) (s : Int × Int) : Prop := s.1 < 0 ∨ ((0 ≤ s.1 ∧ s.1 < n ∧ J s.1 = false) ∧ (0 ≤ s.2 ∧ s.2 < n))
theorem outF_ok (L : List S26) (J : Int → Bool) (n : Int) (hn : n = (L.length : Int)) : ∀ (m : Nat) (i : Int) (s : Int × Int), 0 ≤ i → i + m = n → Pair J n s → Pair J n (outF L J m i s)
  | 0, _, _, _, _, h => h
  | m + 1, i, s, hi, hm, h => by
    rw [outF]
    refine outF_ok L J n hn m (i + 1) _ (by omega) (by omega) ?_
    by_cases hj : J i = true
    · rw [if_pos hj]; exact h
    · rw [if_neg hj]
      unfold comb
      split
      case isTrue hc =>
        have hf := nearF_ok L J i n L.length 0 (-1) (by omega) (by omega) (Or.inl rfl)
        rcases hf with hf | hf
        · omega
        · exact Or.inr ⟨⟨hi, by omega, by simpa using hj⟩, hf.1, hf.2.1⟩
      case isFalse => exact h
theorem outF_in (L : List S26) (J : Int → Bool) (n : Int) (hn : n = (L.length : Int)) : ∀ (m : Nat) (i : Int) (s : Int × Int), 0 ≤ i → i + m = n → (s.1 < 0 ∨ J s.2 = true) → ((outF L J m i s).1 < 0 ∨ J (outF L J m i s).2 = true)
  | 0, _, _, _, _, h => h
  | m + 1, i, s, hi, hm, h => by
    rw [outF]
    refine outF_in L J n hn m (i + 1) _ (by omega) (by omega) ?_
    by_cases hj : J i = true
    · rw [if_pos hj]; exact h
    · rw [if_neg hj]
      unfold comb
      split
      case isTrue hc =>
        have hf := nearF_ok L J i n L.length 0 (-1) (by omega) (by omega) (Or.inl rfl)
        rcases hf with hf | hf
        · omega
        · exact Or.inr hf.2.2
      case isFalse => exact h
theorem outF_keeps (L : List S26) (J : Int → Bool) : ∀ (m : Nat) (i : Int) (s : Int × Int), 0 ≤ i → 0 ≤ s.1 → 0 ≤ (outF L J m i s).1
  | 0, _, _, _, h => h
  | m + 1, i, s, hi, h => by
    rw [outF]
    refine outF_keeps L J m (i + 1) _ (by omega) ?_
    split
    · exact h
    · unfold comb
      split
      · exact hi
      · exact h
theorem outF_pos (L : List S26) (J : Int → Bool) (hn : ∀ i, 0 ≤ nearF L J i L.length 0 (-1)) : ∀ (m : Nat) (i : Int) (s : Int × Int), 0 ≤ i → (∃ j, i ≤ j ∧ j < i + m ∧ J j = false) → 0 ≤ (outF L J m i s).1
  | 0, i, s, _, ⟨j, h1, h2, _⟩ => by omega
  | m + 1, i, s, hi, ⟨j, h1, h2, h3⟩ => by
    rw [outF]
    by_cases hj : J i = true
    · rw [if_pos hj]
      have : j ≠ i := fun e => by rw [e, hj] at h3; cases h3
      exact outF_pos L J hn m (i + 1) s (by omega) ⟨j, by omega, by omega, h3⟩
    · rw [if_neg hj]
      by_cases h0 : s.1 < 0
      · refine outF_keeps L J m (i + 1) _ (by omega) ?_
        unfold comb
        rw [if_pos ⟨hn i, Or.inl h0⟩]
        exact hi
      · refine outF_keeps L J m (i + 1) _ (by omega) ?_
        unfold comb
        split
        · exact hi
        · omega
/-- A short list leaves a number out. -/
theorem left_out : ∀ (n : Nat) (l : List Int), (∀ i : Int, 0 ≤ i → i < (n : Int) → i ∈ l) → n ≤ l.length
  | 0, _, _ => Nat.zero_le _
  | n + 1, l, h => by
    have hm : (n : Int) ∈ l := h n (by omega) (by omega)
    have ih := left_out n (l.erase (n : Int)) (fun i h0 h1 => (List.mem_erase_of_ne (by omega)).2 (h i h0 (by omega)))
    rw [List.length_erase_of_mem hm] at ih
    have := List.length_pos_of_mem hm
    omega
theorem wrap_nat (j : Nat) (h : j ≤ 1000000) : wrap64 ((j : Int) + 1) = ((j + 1 : Nat) : Int) := by unfold wrap64; omega
theorem ev_near (L : List S26) (hg : ∀ s ∈ L, impl_GoodStops.p s = true) (hL : L.length ≤ 7) (inn : List Int) (hin : inn.length ≤ 9223372036854775807) (x : Int) (hx0 : 0 ≤ x) (hx1 : x < (L.length : Int)) :
    ∀ (m j : Nat) (nb : Int), j + m = L.length → Fnd (fun k => decide (k ∈ inn)) (L.length : Int) nb → Ev (fun k => spec_l11Near.l0 k L inn x nb (L.length : Int) (j : Int)) (nearF L (fun k => decide (k ∈ inn)) x m (j : Int) nb)
  | 0, j, nb, hj, hb => by
    refine Ev.round (f := fun _ => some nb) (fun k => ?_) (Ev.now _)
    simp only [spec_l11Near.l0]
    rw [if_neg (by omega)]
  | m + 1, j, nb, hj, hb => by
    have hw := wrap_nat j (by omega)
    have hb' : Fnd (fun k => decide (k ∈ inn)) (L.length : Int) (nearS L (fun k => decide (k ∈ inn)) x (j : Int) nb) := by
      have := nearF_ok L (fun k => decide (k ∈ inn)) x (j + 1 : Int) 1 (j : Int) nb (by omega) (by omega)
      unfold nearS
      by_cases h : (j : Int) ∈ inn
      · simp only [h, decide_true, if_true]
        have hkk : Fnd (fun k => decide (k ∈ inn)) (L.length : Int) (j : Int) := Or.inr ⟨by omega, by omega, by simpa using h⟩
        split
        · exact hkk
        · split
          · exact hkk
          · exact hb
      · simp only [h, decide_false]
        exact hb
    have ih := ev_near L hg hL inn hin x hx0 hx1 m (j + 1) (nearS L (fun k => decide (k ∈ inn)) x (j : Int) nb) (by omega) hb'
    have hn1 : ((j + 1 : Nat) : Int) = (j : Int) + 1 := by omega
    have e0 : nearF L (fun k => decide (k ∈ inn)) x (m + 1) (j : Int) nb = nearF L (fun k => decide (k ∈ inn)) x m ((j + 1 : Nat) : Int) (nearS L (fun k => decide (k ∈ inn)) x (j : Int) nb) := by rw [nearF, ← hn1]
    rw [e0]
    refine Ev.round (fun k => by simp only [spec_l11Near.l0]; rw [if_pos (show (j : Int) < (L.length : Int) by omega), hw]) ?_
    refine Ev.bind (ev_l1Has inn (j : Int) hin) ?_
    by_cases h : decide ((j : Int) ∈ inn) = true
    · refine Ev.ite_pos h ?_
      by_cases h1 : nb < 0
      · have e : nearS L (fun k => decide (k ∈ inn)) x (j : Int) nb = (j : Int) := by
          unfold nearS
          rw [if_pos h, if_pos h1]
        rw [e] at ih ⊢
        exact Ev.ite_pos h1 ih
      · have hnb : 0 ≤ nb ∧ nb < (L.length : Int) := by
          rcases hb with hb | hb
          · omega
          · exact ⟨hb.1, hb.2.1⟩
        refine Ev.ite_neg h1 (Ev.ite_pos hx0 (Ev.ite_pos hx1 (Ev.ite_pos (by omega) (Ev.ite_pos (by omega) (Ev.bindc (wy_spec hg hx0 hx1 (show 0 ≤ (j : Int) by omega) (by omega)) (Ev.ite_pos hnb.1 (Ev.ite_pos hnb.2 (Ev.bindc (wy_spec hg hx0 hx1 hnb.1 hnb.2) ?_))))))))
        by_cases h2 : wy L x (j : Int) < wy L x nb
        · have e : nearS L (fun k => decide (k ∈ inn)) x (j : Int) nb = (j : Int) := by
            unfold nearS
            rw [if_pos h, if_neg h1, if_pos h2]
          rw [e] at ih ⊢
          exact Ev.ite_pos h2 ih
        · have e : nearS L (fun k => decide (k ∈ inn)) x (j : Int) nb = nb := by
            unfold nearS
            rw [if_pos h, if_neg h1, if_neg h2]
          rw [e] at ih ⊢
          exact Ev.ite_neg h2 ih
    · have e : nearS L (fun k => decide (k ∈ inn)) x (j : Int) nb = nb := by
        unfold nearS
        rw [if_neg h]
      rw [e] at ih ⊢
      exact Ev.ite_neg h ih
theorem ev_s2 (L : List S26) (hg : ∀ s ∈ L, impl_GoodStops.p s = true) (hL : L.length ≤ 7) (up inn : List Int) (sum : Int) (hup : up.length = L.length) (hin : inn.length ≤ 1000) (hJ : (0 : Int) ∈ inn) {r : List Int × Int} :
    ∀ (m j : Nat) (s : Int × Int), j + m = L.length → Pair (fun k => decide (k ∈ inn)) (L.length : Int) s →
      (∀ F, F = outF L (fun k => decide (k ∈ inn)) m (j : Int) s → 0 ≤ F.1 ∧ Ev (fun k => spec_l11Tree.l1 k L (up.set F.1.toNat F.2) (inn ++ [F.1]) (wrap64 (sum + wy L F.1 F.2))) r) →
      Ev (fun k => spec_l11Tree.l2 k L up inn sum s.1 s.2 (L.length : Int) (j : Int)) r
  | 0, j, s, hj, hs, H => by
    obtain ⟨h0, h1⟩ := H s rfl
    have hp : s.1 < (L.length : Int) ∧ 0 ≤ s.2 ∧ s.2 < (L.length : Int) := by
      rcases hs with hs | hs
      · omega
      · exact ⟨hs.1.2.1, hs.2.1, hs.2.2⟩
    refine Ev.round (fun k => by simp only [spec_l11Tree.l2]; rw [if_neg (show ¬ (j : Int) < (L.length : Int) by omega)]) ?_
    exact Ev.ite_pos h0 (Ev.ite_pos (by omega) (Ev.ite_pos hp.1 (Ev.ite_pos hp.2.1 (Ev.ite_pos hp.2.2 (Ev.bindc (wy_spec hg h0 hp.1 hp.2.1 hp.2.2) (Ev.ite_pos (by omega) h1))))))
  | m + 1, j, s, hj, hs, H => by
    have hw := wrap_nat j (by omega)
    have hn1 : ((j + 1 : Nat) : Int) = (j : Int) + 1 := by omega
    have ih := fun s' hs' H' => ev_s2 L hg hL up inn sum hup hin hJ (r := r) m (j + 1) s' (by omega) hs' H'
    have hpos := nearF_pos L (fun k => decide (k ∈ inn)) (j : Int) (by simpa using hJ) L.length (by omega)
    have hfd := nearF_ok L (fun k => decide (k ∈ inn)) (j : Int) (L.length : Int) L.length 0 (-1) (by omega) (by omega) (Or.inl rfl)
    have hev := ev_near L hg hL inn (by omega) (j : Int) (by omega) (by omega) L.length 0 (-1) (by omega) (Or.inl rfl)
    refine Ev.round (fun k => by simp only [spec_l11Tree.l2]; rw [if_pos (show (j : Int) < (L.length : Int) by omega), hw]) ?_
    refine Ev.bind (ev_l1Has inn (j : Int) (by omega)) ?_
    by_cases h : decide ((j : Int) ∈ inn) = true
    · exact Ev.ite_pos h (ih s hs (fun F e => H F (by rw [e, outF, if_pos h, ← hn1])))
    · refine Ev.ite_neg h ?_
      have hev' : Ev (fun k => spec_l11Near.f k L inn (j : Int)) (nearF L (fun k => decide (k ∈ inn)) (j : Int) L.length 0 (-1)) := hev
      refine Ev.bind hev' ?_
      generalize hN : nearF L (fun k => decide (k ∈ inn)) (j : Int) L.length 0 (-1) = nb at hpos hfd ⊢
      have hnb : nb < (L.length : Int) := by
        rcases hfd with hfd | hfd
        · omega
        · exact hfd.2.1
      have hpair : Pair (fun k => decide (k ∈ inn)) (L.length : Int) ((j : Int), nb) := Or.inr ⟨⟨by omega, by omega, by simpa using h⟩, hpos, hnb⟩
      have hcomb : outF L (fun k => decide (k ∈ inn)) (m + 1) (j : Int) s = outF L (fun k => decide (k ∈ inn)) m ((j + 1 : Nat) : Int) (comb L (j : Int) s nb) := by rw [outF, if_neg h, hN, hn1]
      by_cases h1 : s.1 < 0
      · have e : comb L (j : Int) s nb = ((j : Int), nb) := by
          unfold comb
          rw [if_pos ⟨hpos, Or.inl h1⟩]
        exact Ev.ite_pos h1 (ih ((j : Int), nb) hpair (fun F eF => H F (by rw [eF, hcomb, e])))
      · have hp : s.1 < (L.length : Int) ∧ 0 ≤ s.2 ∧ s.2 < (L.length : Int) := by
          rcases hs with hs | hs
          · omega
          · exact ⟨hs.1.2.1, hs.2.1, hs.2.2⟩
        refine Ev.ite_neg h1 (Ev.ite_pos (by omega) (Ev.ite_pos (by omega) (Ev.ite_pos hpos (Ev.ite_pos hnb (Ev.bindc (wy_spec hg (show 0 ≤ (j : Int) by omega) (by omega) hpos hnb) (Ev.ite_pos (by omega) (Ev.ite_pos hp.1 (Ev.ite_pos hp.2.1 (Ev.ite_pos hp.2.2 (Ev.bindc (wy_spec hg (by omega) hp.1 hp.2.1 hp.2.2) ?_))))))))))
        by_cases h2 : wy L (j : Int) nb < wy L s.1 s.2
        · have e : comb L (j : Int) s nb = ((j : Int), nb) := by
            unfold comb
            rw [if_pos ⟨hpos, Or.inr h2⟩]
          exact Ev.ite_pos h2 (ih ((j : Int), nb) hpair (fun F eF => H F (by rw [eF, hcomb, e])))
        · have e : comb L (j : Int) s nb = s := by
            unfold comb
            rw [if_neg (by omega)]
          exact Ev.ite_neg h2 (ih s hs (fun F eF => H F (by rw [eF, hcomb, e])))
theorem ev_i2 (L : List S26) (hg : ∀ s ∈ L, impl_GoodStops.p s = true) (hL : L.length ≤ 7) (out : List Int) (sum : Int) (jo : List Bool) (hjo : jo.length = L.length) (J : Int → Bool) (hJ : ∀ k : Int, 0 ≤ k → k < (L.length : Int) → rdOf false jo k = J k) (x22 x23 i : Int) (hi0 : 0 ≤ i) (hi1 : i < (L.length : Int)) {r : List Int × Int} :
    ∀ (m j : Nat) (s : Int × Int), j + m = L.length → (s.1 < 0 ∨ ((0 ≤ s.1 ∧ s.1 < (L.length : Int)) ∧ (0 ≤ s.2 ∧ s.2 < (L.length : Int)))) →
      (∀ F, F = (if J i = true then s else scanF L J i m (j : Int) s) → Ev (fun k => impl_tree.l1 k L out sum jo F.1 F.2 x22 x23 (L.length : Int) (wrap64 (i + 1))) r) →
      Ev (fun k => impl_tree.l2 k L out sum jo s.1 s.2 i x22 x23 (L.length : Int) i (L.length : Int) (j : Int)) r
  | 0, j, s, hj, hs, H => by
    refine Ev.round (fun k => by simp only [impl_tree.l2]; rw [if_neg (show ¬ (j : Int) < (L.length : Int) by omega)]) ?_
    exact H s (by split <;> rfl)
  | m + 1, j, s, hj, hs, H => by
    have hw := wrap_nat j (by omega)
    have hn1 : ((j + 1 : Nat) : Int) = (j : Int) + 1 := by omega
    have ih := fun s' hs' H' => ev_i2 L hg hL out sum jo hjo J hJ x22 x23 i hi0 hi1 (r := r) m (j + 1) s' (by omega) hs' H'
    have ej := hJ (j : Int) (by omega) (by omega)
    have ei := hJ i hi0 hi1
    refine Ev.round (fun k => by simp only [impl_tree.l2]; rw [if_pos (show (j : Int) < (L.length : Int) by omega), if_pos hi0, if_pos (show i < (jo.length : Int) by omega), hw, ei, ej]) ?_
    by_cases h : J i = true
    · refine Ev.ite_pos h (ih s hs (fun F e => H F ?_))
      rw [e, if_pos h, if_pos h]
    · refine Ev.ite_neg h (Ev.ite_pos (by omega) (Ev.ite_pos (by omega) ?_))
      have hst : ∀ s', scanS L J i (j : Int) s = s' → scanF L J i (m + 1) (j : Int) s = scanF L J i m ((j + 1 : Nat) : Int) s' := fun s' e => by rw [scanF, e, hn1]
      have hpair : (((i, (j : Int)) : Int × Int).1 < 0 ∨ ((0 ≤ ((i, (j : Int)) : Int × Int).1 ∧ ((i, (j : Int)) : Int × Int).1 < (L.length : Int)) ∧ (0 ≤ ((i, (j : Int)) : Int × Int).2 ∧ ((i, (j : Int)) : Int × Int).2 < (L.length : Int)))) := Or.inr ⟨⟨hi0, hi1⟩, by show 0 ≤ (j : Int); omega, by show (j : Int) < _; omega⟩
      by_cases hk : J (j : Int) = true
      · refine Ev.ite_pos hk ?_
        by_cases h1 : s.1 < 0
        · have e := hst (i, (j : Int)) (by unfold scanS; rw [if_pos hk, if_pos h1])
          exact Ev.ite_pos h1 (ih (i, (j : Int)) hpair (fun F eF => H F (by rw [eF, if_neg h, if_neg h, e])))
        · have hp : (0 ≤ s.1 ∧ s.1 < (L.length : Int)) ∧ (0 ≤ s.2 ∧ s.2 < (L.length : Int)) := by
            rcases hs with hs | hs
            · omega
            · exact hs
          refine Ev.ite_neg h1 (Ev.ite_pos hi1 (Ev.ite_pos (by omega) (Ev.bindc (wy_impl hg hi0 hi1 (show 0 ≤ (j : Int) by omega) (by omega)) (Ev.ite_pos hp.1.1 (Ev.ite_pos hp.1.2 (Ev.ite_pos hp.2.1 (Ev.ite_pos hp.2.2 (Ev.bindc (wy_impl hg hp.1.1 hp.1.2 hp.2.1 hp.2.2) ?_))))))))
          by_cases h2 : wy L i (j : Int) < wy L s.1 s.2
          · have e := hst (i, (j : Int)) (by unfold scanS; rw [if_pos hk, if_neg h1, if_pos h2])
            exact Ev.ite_pos h2 (ih (i, (j : Int)) hpair (fun F eF => H F (by rw [eF, if_neg h, if_neg h, e])))
          · have e := hst s (by unfold scanS; rw [if_pos hk, if_neg h1, if_neg h2])
            exact Ev.ite_neg h2 (ih s hs (fun F eF => H F (by rw [eF, if_neg h, if_neg h, e])))
      · have e := hst s (by unfold scanS; rw [if_neg hk])
        exact Ev.ite_neg hk (ih s hs (fun F eF => H F (by rw [eF, if_neg h, if_neg h, e])))
theorem ev_i1 (L : List S26) (hg : ∀ s ∈ L, impl_GoodStops.p s = true) (hL : L.length ≤ 7) (out : List Int) (sum : Int) (jo : List Bool) (hout : out.length = L.length) (hjo : jo.length = L.length) (J : Int → Bool) (hJ : ∀ k : Int, 0 ≤ k → k < (L.length : Int) → rdOf false jo k = J k) (hJ0 : J 0 = true) (x22 x23 : Int) {r : List Int × Int} :
    ∀ (m j : Nat) (s : Int × Int), j + m = L.length → (s.1 < 0 ∨ ((0 ≤ s.1 ∧ s.1 < (L.length : Int)) ∧ (0 ≤ s.2 ∧ s.2 < (L.length : Int)))) →
      (∀ F, F = outF L J m (j : Int) s → 0 ≤ F.1 ∧ Ev (fun k => impl_tree.l0 k L (out.set F.1.toNat F.2) (wrap64 (sum + wy L F.1 F.2)) (jo.set F.1.toNat true) x22 (wrap64 (x23 + 1))) r) →
      Ev (fun k => impl_tree.l1 k L out sum jo s.1 s.2 x22 x23 (L.length : Int) (j : Int)) r
  | 0, j, s, hj, hs, H => by
    obtain ⟨h0, h1⟩ := H s rfl
    have hp : s.1 < (L.length : Int) ∧ 0 ≤ s.2 ∧ s.2 < (L.length : Int) := by
      rcases hs with hs | hs
      · omega
      · exact ⟨hs.1.2, hs.2.1, hs.2.2⟩
    refine Ev.round (fun k => by simp only [impl_tree.l1]; rw [if_neg (show ¬ (j : Int) < (L.length : Int) by omega)]) ?_
    exact Ev.ite_pos h0 (Ev.ite_pos (by omega) (Ev.ite_pos (by omega) (Ev.ite_pos hp.1 (Ev.ite_pos hp.2.1 (Ev.ite_pos hp.2.2 (Ev.bindc (wy_impl hg h0 hp.1 hp.2.1 hp.2.2) h1))))))
  | m + 1, j, s, hj, hs, H => by
    have hw := wrap_nat j (by omega)
    have hn1 : ((j + 1 : Nat) : Int) = (j : Int) + 1 := by omega
    have hsn := scan_near L J (j : Int) s (by omega) L.length 0 (-1) (by omega)
    rw [comb_none] at hsn
    refine Ev.round (fun k => by simp only [impl_tree.l1]; rw [if_pos (show (j : Int) < (L.length : Int) by omega)]) ?_
    refine ev_i2 L hg hL out sum jo hjo J hJ x22 x23 (j : Int) (by omega) (by omega) L.length 0 s (by omega) hs (fun F eF => ?_)
    have eF' : F = (if J (j : Int) = true then s else comb L (j : Int) s (nearF L J (j : Int) L.length 0 (-1))) := by
      rw [eF]; split
      · rfl
      · exact hsn
    have hF : F.1 < 0 ∨ ((0 ≤ F.1 ∧ F.1 < (L.length : Int)) ∧ (0 ≤ F.2 ∧ F.2 < (L.length : Int))) := by
      rw [eF']
      have hf := nearF_ok L J (j : Int) (L.length : Int) L.length 0 (-1) (by omega) (by omega) (Or.inl rfl)
      split
      · exact hs
      · unfold comb
        split
        case isTrue hc =>
          rcases hf with hf | hf
          · omega
          · exact Or.inr ⟨⟨by show 0 ≤ (j : Int); omega, by show (j : Int) < _; omega⟩, hf.1, hf.2.1⟩
        case isFalse => exact hs
    have ih := ev_i1 L hg hL out sum jo hout hjo J hJ hJ0 x22 x23 (r := r) m (j + 1) F (by omega) hF (fun G eG => H G (by rw [eG, outF, ← eF', hn1]))
    rw [hw]
    exact ih
/-- The rank of a stop: when it was joined. -/
def Grown (n : Nat) (inn up : List Int) : Prop := up.length = n ∧ (∀ x ∈ inn, 0 ≤ x ∧ x < (n : Int)) ∧ ∀ i : Nat, i < n → up.getD i 0 = -1 ∨ ∃ a b : Nat, a < b ∧ b < inn.length ∧ inn.getD a 0 = up.getD i 0 ∧ inn.getD b 0 = (i : Int) ∧ (∀ c : Nat, c < inn.length → inn.getD c 0 = (i : Int) → c = b)
theorem getD_append_lt {α : Type} (d : α) (l : List α) (x : α) {i : Nat} (h : i < l.length) : (l ++ [x]).getD i d = l.getD i d := by
  rw [List.getD_eq_getElem?_getD, List.getD_eq_getElem?_getD, List.getElem?_append_left h]
theorem getD_append_eq {α : Type} (d : α) (l : List α) (x : α) : (l ++ [x]).getD l.length d = x := by
  rw [List.getD_eq_getElem?_getD, List.getElem?_append_right (Nat.le_refl _), Nat.sub_self]; rfl
theorem getD_set_eq {α : Type} (d : α) (l : List α) (v : α) {i : Nat} (h : i < l.length) : (l.set i v).getD i d = v := by
  rw [List.getD_eq_getElem?_getD, List.getElem?_set_self h]; rfl
theorem getD_set_ne {α : Type} (d : α) (l : List α) (v : α) {i j : Nat} (h : i ≠ j) : (l.set i v).getD j d = l.getD j d := by
  rw [List.getD_eq_getElem?_getD, List.getD_eq_getElem?_getD, List.getElem?_set_ne h]
theorem getD_mem' {l : List Int} {x : Int} (h : x ∈ l) : ∃ a, a < l.length ∧ l.getD a 0 = x := by
  obtain ⟨a, ha, e⟩ := List.mem_iff_getElem.1 h
  exact ⟨a, ha, by rw [List.getD_eq_getElem?_getD, List.getElem?_eq_getElem ha]; exact e⟩
theorem Grown.step {n : Nat} {inn up : List Int} {x y : Int} (h : Grown n inn up) (hx0 : 0 ≤ x) (hx : x < (n : Int)) (hnew : ¬ x ∈ inn) (hy : y ∈ inn) : Grown n (inn ++ [x]) (up.set x.toNat y) := by
  obtain ⟨h1, h2, h3⟩ := h
  refine ⟨by simpa using h1, fun z hz => ?_, fun i hi => ?_⟩
  · rcases List.mem_append.1 hz with hz | hz
    · exact h2 z hz
    · rw [List.mem_singleton] at hz; omega
  · by_cases e : x.toNat = i
    · right
      obtain ⟨a, ha, ea⟩ := getD_mem' hy
      refine ⟨a, inn.length, ha, by simp, ?_, ?_, fun c hc hce => ?_⟩
      · rw [getD_append_lt _ _ _ ha, ea, ← e, getD_set_eq _ _ _ (by omega)]
      · rw [getD_append_eq]; omega
      · by_cases hcl : c < inn.length
        · rw [getD_append_lt _ _ _ hcl] at hce
          exact absurd (by rw [show x = (i : Int) by omega, ← hce]; exact getD_mem 0 hcl) hnew
        · simp at hc; omega
    · rw [getD_set_ne _ _ _ e]
      rcases h3 i hi with h | ⟨a, b, hab, hb, ea, eb, hu⟩
      · exact Or.inl h
      · refine Or.inr ⟨a, b, hab, by simp; omega, by rw [getD_append_lt _ _ _ (by omega)]; exact ea, by rw [getD_append_lt _ _ _ hb]; exact eb, fun c hc hce => ?_⟩
        by_cases hcl : c < inn.length
        · rw [getD_append_lt _ _ _ hcl] at hce
          exact hu c hcl hce
        · simp at hc
          have : c = inn.length := by omega
          subst this
          rw [getD_append_eq] at hce
          omega
/-- The two trees are the same, and grown. -/
theorem tree_same (L : List S26) (hg : ∀ s ∈ L, impl_GoodStops.p s = true) (hL : L.length ≤ 7) : ∀ (m : Nat) (inn out : List Int) (sum : Int) (jo : List Bool), inn.length + m = L.length → jo.length = L.length → (0 : Int) ∈ inn → Grown L.length inn out →
    (∀ k : Int, 0 ≤ k → k < (L.length : Int) → rdOf false jo k = decide (k ∈ inn)) →
    ∃ r : List Int × Int, (∃ inn', inn'.length = L.length ∧ Grown L.length inn' r.1) ∧ Ev (fun k => spec_l11Tree.l1 k L out inn sum) r ∧ Ev (fun k => impl_tree.l0 k L out sum jo ((L.length : Int) - 1) ((inn.length : Int) - 1)) r
  | 0, inn, out, sum, jo, hm, hjo, h0, hG, hJ => by
    refine ⟨(out, sum), ⟨inn, by omega, hG⟩, ?_, ?_⟩
    · refine Ev.round (f := fun _ => some _) (fun k => ?_) (Ev.now _)
      simp only [spec_l11Tree.l1]
      rw [if_neg (by omega)]
    · refine Ev.round (f := fun _ => some _) (fun k => ?_) (Ev.now _)
      simp only [impl_tree.l0]
      rw [if_neg (by omega)]
  | m + 1, inn, out, sum, jo, hm, hjo, h0, hG, hJ => by
    have hpos := fun i => nearF_pos L (fun k => decide (k ∈ inn)) i (by simpa using h0) L.length (by omega)
    have hex : ∃ j : Int, 0 ≤ j ∧ j < 0 + (L.length : Int) ∧ (fun k => decide (k ∈ inn)) j = false := by
      apply Classical.byContradiction
      intro hno
      have := left_out L.length inn (fun i hi0 hi1 => by
        apply Classical.byContradiction
        intro hi
        exact hno ⟨i, hi0, by omega, by simpa using hi⟩)
      omega
    have hinit := outF_init L (fun k => decide (k ∈ inn)) hpos L.length 0 (-1, 0) (-1, -1) (by decide) (by decide) hex
    have hF0 := outF_pos L (fun k => decide (k ∈ inn)) hpos L.length 0 (-1, 0) (by omega) hex
    have hok := outF_ok L (fun k => decide (k ∈ inn)) (L.length : Int) rfl L.length 0 (-1, 0) (by omega) (by omega) (Or.inl (by decide))
    have hjn := outF_in L (fun k => decide (k ∈ inn)) (L.length : Int) rfl L.length 0 (-1, 0) (by omega) (by omega) (Or.inl (by decide))
    generalize hF : outF L (fun k => decide (k ∈ inn)) L.length 0 (-1, 0) = F at hinit hF0 hok hjn
    have hp : F.1 < (L.length : Int) ∧ ¬ F.1 ∈ inn ∧ F.2 ∈ inn := by
      rcases hok with hok | hok
      · omega
      · refine ⟨hok.1.2.1, by simpa using hok.1.2.2, ?_⟩
        rcases hjn with hjn | hjn
        · omega
        · simpa using hjn
    obtain ⟨r, hr, hs, hi⟩ := tree_same L hg hL m (inn ++ [F.1]) (out.set F.1.toNat F.2) (wrap64 (sum + wy L F.1 F.2)) (jo.set F.1.toNat true) (by simp; omega) (by simpa using hjo) (by simp [h0]) (hG.step hF0 hp.1 hp.2.1 hp.2.2) (fun k k0 k1 => by
      unfold rdOf
      by_cases e : F.1.toNat = k.toNat
      · rw [e, getD_set_eq _ _ _ (by omega)]
        have : F.1 = k := by omega
        simp [this]
      · rw [getD_set_ne _ _ _ e]
        have := hJ k k0 k1
        unfold rdOf at this
        rw [this, decide_eq_decide, List.mem_append, List.mem_singleton]
        exact ⟨Or.inl, fun h => h.elim id (fun h => by omega)⟩)
    refine ⟨r, hr, ?_, ?_⟩
    · refine Ev.round (fun k => by simp only [spec_l11Tree.l1]; rw [if_pos (show (inn.length : Int) < (L.length : Int) by omega)]) ?_
      refine ev_s2 L hg hL out inn sum hG.1 (by omega) h0 L.length 0 (-1, 0) (by omega) (Or.inl (by decide)) (fun G eG => ?_)
      have : G = F := by rw [eG, ← hF]; rfl
      subst this
      exact ⟨hF0, hs⟩
    · refine Ev.round (fun k => by simp only [impl_tree.l0]; rw [if_pos (show (inn.length : Int) - 1 < (L.length : Int) - 1 by omega)]) ?_
      refine ev_i1 L hg hL out sum jo hG.1 hjo (fun k => decide (k ∈ inn)) hJ (by simpa using h0) _ _ L.length 0 (-1, -1) (by omega) (Or.inl (by decide)) (fun G eG => ?_)
      have : G = F := by rw [eG]; exact hinit.symm
      subst this
      refine ⟨hF0, ?_⟩
      rw [show wrap64 ((inn.length : Int) - 1 + 1) = (((inn ++ [G.1]).length : Nat) : Int) - 1 by rw [List.length_append, List.length_singleton]; unfold wrap64; omega]
      exact hi
theorem ev_up0 (L : List S26) {r : List Int × Int} : ∀ (m j : Nat) (up : List Int), j + m = up.length → up.length ≤ 1000 → Ev (fun k => spec_l11Tree.l1 k L (up.take j ++ List.replicate m (-1)) ([0] : List Int) 0) r → Ev (fun k => spec_l11Tree.l0 k L up (up.length : Int) (j : Int)) r
  | 0, j, up, hj, hu, h => by
    refine Ev.round (fun k => by simp only [spec_l11Tree.l0]; rw [if_neg (show ¬ (j : Int) < (up.length : Int) by omega)]) ?_
    rw [List.take_of_length_le (by omega), List.replicate_zero, List.append_nil] at h
    exact h
  | m + 1, j, up, hj, hu, h => by
    have hw := wrap_nat j (by omega)
    have e : (up.set j (-1)).take (j + 1) = up.take j ++ [-1] := by
      rw [List.take_set, List.take_succ_eq_append_getElem (show j < up.length by omega), List.set_append_right _ _ (by simp; omega)]
      simp [Nat.min_eq_left (show j ≤ up.length by omega)]
    have ih := ev_up0 L (r := r) m (j + 1) (up.set j (-1)) (by simp; omega) (by simpa using hu) (by
      rw [e, List.append_assoc]
      exact h)
    refine Ev.round (fun k => by simp only [spec_l11Tree.l0]; rw [if_pos (show (j : Int) < (up.length : Int) by omega), hw]) ?_
    refine Ev.ite_pos (by omega) (Ev.ite_pos (by omega) ?_)
    rw [List.length_set] at ih
    rw [Int.toNat_natCast]
    exact ih
theorem trees (L : List S26) (hg : goodStops L = true) : ∃ r : List Int × Int, (∃ inn', inn'.length = L.length ∧ Grown L.length inn' r.1) ∧ Ev (fun k => spec_l11Tree.f k L) r ∧ Ev (fun k => impl_tree.f k L) r := by
  unfold goodStops at hg
  rw [Bool.and_eq_true, Bool.and_eq_true, decide_eq_true_eq, decide_eq_true_eq, List.all_eq_true] at hg
  obtain ⟨⟨h1, h7⟩, hp⟩ := hg
  have hrep : ∀ (d : Bool) (i : Nat), i < L.length → (List.replicate L.length d).getD i false = d := fun d i hi => by
    rw [List.getD_eq_getElem?_getD, List.getElem?_replicate, if_pos hi]; rfl
  obtain ⟨r, hr, hs, hi⟩ := tree_same L hp (by omega) (L.length - 1) [0] (List.replicate L.length (-1)) 0 ((List.replicate L.length false).set 0 true) (by simp; omega) (by simp) (by simp)
    ⟨by simp, fun x hx => by rw [List.mem_singleton] at hx; omega, fun i hi => Or.inl (by rw [List.getD_eq_getElem?_getD, List.getElem?_replicate, if_pos hi]; rfl)⟩
    (fun k k0 k1 => by
      unfold rdOf
      by_cases e : (0 : Nat) = k.toNat
      · rw [← e, getD_set_eq _ _ _ (by simp; omega)]
        simp; omega
      · rw [getD_set_ne _ _ _ e, hrep false _ (by omega)]
        simp; omega)
  refine ⟨r, hr, ?_, ?_⟩
  · unfold spec_l11Tree.f
    refine Ev.ite_pos (by omega) (Ev.ite_pos (by omega) (Ev.bindc rfl ?_))
    have h := ev_up0 L (r := r) L.length 0 (List.replicate L.length 0) (by simp) (by simp; omega) (by simpa using hs)
    simpa using h
  · unfold impl_tree.f
    refine Ev.bindc (a := List.replicate L.length (-1)) ?_ ?_
    · unfold slices_Repeat_int_int.f
      simp only
      rw [if_pos (by omega), Int.toNat_natCast]
    refine Ev.ite_pos (by omega) (Ev.ite_pos (by omega) (Ev.bindc rfl (Ev.ite_pos (by simp; omega) ?_)))
    rw [show wrap64 ((L.length : Int) - 1) = (L.length : Int) - 1 by unfold wrap64; omega]
    exact hi
theorem rd_mem' {l : List Int} {i : Int} (h0 : 0 ≤ i) (h1 : i < (l.length : Int)) : rd l i ∈ l := getD_mem 0 (by omega)
theorem cost_l (L : List S26) (hg : ∀ s ∈ L, impl_GoodStops.p s = true) (o : List Int) (ho : ∀ x ∈ o, 0 ≤ x ∧ x < (L.length : Int)) (hn : o.length ≤ 4611686018427387904) : ∀ (m j : Nat) (s : Int), j + m = o.length →
    ∃ c, Ev (fun k => spec_l11Cost.l0 k L o s o (o.length : Int) (j : Int)) c ∧ Ev (fun k => impl_tourCost.l0 k L o s o (o.length : Int) (j : Int)) c
  | 0, j, s, hj => by
    refine ⟨s, Ev.round (f := fun _ => some s) (fun k => ?_) (Ev.now _), Ev.round (f := fun _ => some s) (fun k => ?_) (Ev.now _)⟩
    · simp only [spec_l11Cost.l0]
      rw [if_neg (by omega)]
    · simp only [impl_tourCost.l0]
      rw [if_neg (by omega)]
  | m + 1, j, s, hj => by
    have hw : wrap64 ((j : Int) + 1) = (j : Int) + 1 := by unfold wrap64; omega
    have hn1 : ((j + 1 : Nat) : Int) = (j : Int) + 1 := by omega
    have q0 : 0 ≤ Int.tmod ((j : Int) + 1) (o.length : Int) := Int.tmod_nonneg _ (by omega)
    have q1 : Int.tmod ((j : Int) + 1) (o.length : Int) < (o.length : Int) := Int.tmod_lt_of_pos _ (by omega)
    have ha := ho _ (rd_mem' (l := o) (i := (j : Int)) (by omega) (by omega))
    have hb := ho _ (rd_mem' q0 q1)
    obtain ⟨c, h1, h2⟩ := cost_l L hg o ho hn m (j + 1) (wrap64 (s + wy L (rd o (j : Int)) (rd o (Int.tmod ((j : Int) + 1) (o.length : Int))))) (by omega)
    rw [hn1] at h1 h2
    refine ⟨c, ?_, ?_⟩
    · refine Ev.round (fun k => by simp only [spec_l11Cost.l0]; rw [if_pos (show (j : Int) < (o.length : Int) by omega), hw]) ?_
      exact Ev.ite_pos (by omega) (Ev.ite_pos (by omega) (Ev.ite_pos ha.1 (Ev.ite_pos ha.2 (Ev.ite_neg (by omega) (Ev.ite_pos q0 (Ev.ite_pos q1 (Ev.ite_pos hb.1 (Ev.ite_pos hb.2 (Ev.bindc (wy_spec hg ha.1 ha.2 hb.1 hb.2) h1)))))))))
    · refine Ev.round (fun k => by simp only [impl_tourCost.l0]; rw [if_pos (show (j : Int) < (o.length : Int) by omega), hw]) ?_
      exact Ev.ite_pos (by omega) (Ev.ite_pos (by omega) (Ev.ite_pos ha.1 (Ev.ite_pos ha.2 (Ev.ite_neg (by omega) (Ev.ite_pos q0 (Ev.ite_pos q1 (Ev.ite_pos hb.1 (Ev.ite_pos hb.2 (Ev.bindc (wy_impl hg ha.1 ha.2 hb.1 hb.2) h2)))))))))
theorem costs (L : List S26) (hg : ∀ s ∈ L, impl_GoodStops.p s = true) (o : List Int) (ho : ∀ x ∈ o, 0 ≤ x ∧ x < (L.length : Int)) (hn : o.length ≤ 4611686018427387904) : ∃ c, Ev (fun k => spec_l11Cost.f k L o) c ∧ Ev (fun k => impl_tourCost.f k L o) c := cost_l L hg o ho hn o.length 0 0 (by omega)
/-- A stop and all that are joined behind it, d deep at most. -/
def walkF (up : List Int) : Nat → Int → List Int
  | 0, s => [s]
  | d + 1, s => s :: (List.range' 0 up.length).flatMap fun i => if up.getD i 0 = s then walkF up d (i : Int) else []
theorem flat_len {g : Nat → List Int} {b : Nat} (h : ∀ i, (g i).length ≤ b) : ∀ l : List Nat, (l.flatMap g).length ≤ l.length * b
  | [] => by simp
  | i :: l => by
    have := h i
    have ih := flat_len h l
    rw [List.flatMap_cons, List.length_append, List.length_cons, Nat.add_mul]
    omega
theorem walkF_len (up : List Int) (hu : up.length ≤ 7) : ∀ (d : Nat) (s : Int), (walkF up d s).length ≤ 8 ^ d
  | 0, s => by simp [walkF]
  | d + 1, s => by
    have ih := walkF_len up hu d
    rw [walkF, List.length_cons]
    have h := flat_len (g := fun i => if up.getD i 0 = s then walkF up d (i : Int) else []) (b := 8 ^ d) (fun i => by
      split
      · exact ih _
      · simp) (List.range' 0 up.length)
    rw [List.length_range'] at h
    have h2 : up.length * 8 ^ d ≤ 7 * 8 ^ d := Nat.mul_le_mul_right _ hu
    have h3 : 1 ≤ 8 ^ d := Nat.pow_pos (by decide)
    rw [Nat.pow_succ]
    omega
theorem walkF_in (up : List Int) : ∀ (d : Nat) (s : Int), 0 ≤ s → s < (up.length : Int) → ∀ x ∈ walkF up d s, 0 ≤ x ∧ x < (up.length : Int)
  | 0, s, h0, h1, x, hx => by
    simp [walkF] at hx
    omega
  | d + 1, s, h0, h1, x, hx => by
    rw [walkF, List.mem_cons, List.mem_flatMap] at hx
    rcases hx with rfl | ⟨i, hi, hx⟩
    · exact ⟨h0, h1⟩
    · rw [List.mem_range'_1] at hi
      split at hx
      · exact walkF_in up d (i : Int) (by omega) (by omega) x hx
      · cases hx
theorem ev_walk_l (up : List Int) (hu : up.length ≤ 7) (s : Int) (W : Int → List Int) (hW : ∀ i : Nat, i < up.length → up.getD i 0 = s → ∀ o : List Int, o.length + (W (i : Int)).length ≤ 1000000000 → Ev (fun k => spec_l11Walk.f k up (i : Int) o) (o ++ W (i : Int))) :
    ∀ (m j : Nat) (o : List Int), j + m = up.length → o.length + ((List.range' j m).flatMap fun i => if up.getD i 0 = s then W (i : Int) else []).length ≤ 1000000000 →
      Ev (fun k => spec_l11Walk.l0 k up s o up (up.length : Int) (j : Int)) (o ++ (List.range' j m).flatMap fun i => if up.getD i 0 = s then W (i : Int) else [])
  | 0, j, o, hj, hb => by
    refine Ev.round (f := fun _ => some o) (fun k => ?_) (Ev.cast (Ev.now _) (by simp))
    simp only [spec_l11Walk.l0]
    rw [if_neg (by omega)]
  | m + 1, j, o, hj, hb => by
    have hw : wrap64 ((j : Int) + 1) = ((j + 1 : Nat) : Int) := by unfold wrap64; omega
    rw [List.range'_succ, List.flatMap_cons] at hb ⊢
    rw [List.length_append] at hb
    refine Ev.round (fun k => by simp only [spec_l11Walk.l0]; rw [if_pos (show (j : Int) < (up.length : Int) by omega), hw]) ?_
    refine Ev.ite_pos (by omega) (Ev.ite_pos (by omega) ?_)
    by_cases c : up.getD j 0 = s
    · rw [if_pos c] at hb ⊢
      refine Ev.ite_pos (by unfold rd; rw [Int.toNat_natCast]; exact c) (Ev.bind (hW j (by omega) c o (by omega)) ?_)
      rw [← List.append_assoc]
      exact ev_walk_l up hu s W hW m (j + 1) (o ++ W (j : Int)) (by omega) (by rw [List.length_append]; omega)
    · rw [if_neg c] at hb ⊢
      refine Ev.ite_neg (by unfold rd; rw [Int.toNat_natCast]; exact c) ?_
      exact ev_walk_l up hu s W hW m (j + 1) o (by omega) (by simpa using hb)
theorem ev_behind_l (up : List Int) (hu : up.length ≤ 7) (s : Int) (W : Int → List Int) (hW : ∀ i : Nat, i < up.length → up.getD i 0 = s → Ev (fun k => impl_behind.f k up (i : Int)) (W (i : Int))) :
    ∀ (m j : Nat) (o : List Int), j + m = up.length → o.length + ((List.range' j m).flatMap fun i => if up.getD i 0 = s then W (i : Int) else []).length ≤ 1000000000 →
      Ev (fun k => impl_behind.l0 k up s o up (up.length : Int) (j : Int)) (o ++ (List.range' j m).flatMap fun i => if up.getD i 0 = s then W (i : Int) else [])
  | 0, j, o, hj, hb => by
    refine Ev.round (f := fun _ => some o) (fun k => ?_) (Ev.cast (Ev.now _) (by simp))
    simp only [impl_behind.l0]
    rw [if_neg (by omega)]
  | m + 1, j, o, hj, hb => by
    have hw : wrap64 ((j : Int) + 1) = ((j + 1 : Nat) : Int) := by unfold wrap64; omega
    rw [List.range'_succ, List.flatMap_cons] at hb ⊢
    rw [List.length_append] at hb
    refine Ev.round (fun k => by simp only [impl_behind.l0]; rw [if_pos (show (j : Int) < (up.length : Int) by omega), hw]) ?_
    refine Ev.ite_pos (by omega) (Ev.ite_pos (by omega) ?_)
    by_cases c : up.getD j 0 = s
    · rw [if_pos c] at hb ⊢
      refine Ev.ite_pos (by unfold rd; rw [Int.toNat_natCast]; exact c) (Ev.bind (hW j (by omega) c) (Ev.ite_pos (by omega) ?_))
      rw [← List.append_assoc]
      exact ev_behind_l up hu s W hW m (j + 1) (o ++ W (j : Int)) (by omega) (by rw [List.length_append]; omega)
    · rw [if_neg c] at hb ⊢
      refine Ev.ite_neg (by unfold rd; rw [Int.toNat_natCast]; exact c) ?_
      exact ev_behind_l up hu s W hW m (j + 1) o (by omega) (by simpa using hb)
theorem walks {n : Nat} {inn up : List Int} (hG : Grown n inn up) (hn : n ≤ 7) : ∀ (d : Nat) (s : Int), d ≤ 7 → 0 ≤ s → (∀ c : Nat, c < inn.length → inn.getD c 0 = s → inn.length ≤ c + d) →
    (∀ o : List Int, o.length + (walkF up d s).length ≤ 1000000000 → Ev (fun k => spec_l11Walk.f k up s o) (o ++ walkF up d s)) ∧ Ev (fun k => impl_behind.f k up s) (walkF up d s)
  | d, s, hd, h0, hc => by
    have hu : up.length ≤ 7 := by rw [hG.1]; exact hn
    obtain ⟨W, hW1, hW2, hWe⟩ : ∃ W : Int → List Int, (∀ i : Nat, i < up.length → up.getD i 0 = s → ∀ o : List Int, o.length + (W (i : Int)).length ≤ 1000000000 → Ev (fun k => spec_l11Walk.f k up (i : Int) o) (o ++ W (i : Int))) ∧
        (∀ i : Nat, i < up.length → up.getD i 0 = s → Ev (fun k => impl_behind.f k up (i : Int)) (W (i : Int))) ∧ walkF up d s = [s] ++ (List.range' 0 up.length).flatMap fun i => if up.getD i 0 = s then W (i : Int) else [] := by
      have key : ∀ i : Nat, i < up.length → up.getD i 0 = s → ∃ e : Nat, d = e + 1 ∧ ∀ c : Nat, c < inn.length → inn.getD c 0 = (i : Int) → inn.length ≤ c + e := fun i hi hs => by
        rcases hG.2.2 i (by rw [← hG.1]; exact hi) with h | ⟨a, b, hab, hb, ea, eb, hu⟩
        · omega
        · have := hc a (by omega) (by rw [ea, hs])
          exact ⟨d - 1, by omega, fun c hcl hce => by have := hu c hcl hce; omega⟩
      cases d with
      | zero =>
        refine ⟨fun _ => [], fun i hi hs => ?_, fun i hi hs => ?_, by simp [walkF]⟩
        · obtain ⟨e, he, _⟩ := key i hi hs; omega
        · obtain ⟨e, he, _⟩ := key i hi hs; omega
      | succ d =>
        refine ⟨walkF up d, fun i hi hs => ?_, fun i hi hs => ?_, rfl⟩
        · obtain ⟨e, he, hk⟩ := key i hi hs
          obtain rfl : d = e := by omega
          exact (walks hG hn d (i : Int) (by omega) (by omega) hk).1
        · obtain ⟨e, he, hk⟩ := key i hi hs
          obtain rfl : d = e := by omega
          exact (walks hG hn d (i : Int) (by omega) (by omega) hk).2
    have hl := walkF_len up hu d s
    have h8 : 8 ^ d ≤ 8 ^ 7 := Nat.pow_le_pow_right (by decide) hd
    have h87 : (8 : Nat) ^ 7 = 2097152 := by decide
    rw [hWe] at hl ⊢
    rw [List.length_append] at hl
    refine ⟨fun o ho => ?_, ?_⟩
    · rw [List.length_append] at ho
      rw [← List.append_assoc]
      refine Ev.round (fun k => by simp only [spec_l11Walk.f]; rw [if_pos (by simp at ho; omega)]) ?_
      exact ev_walk_l up hu s W hW1 up.length 0 (o ++ [s]) (by omega) (by rw [List.length_append]; omega)
    · refine Ev.round (fun k => by simp only [impl_behind.f]; rfl) ?_
      exact ev_behind_l up hu s W hW2 up.length 0 [s] (by omega) (by omega)
  termination_by d => d
end Go.Proofs.Ytcbjfnkeieeecaa.Pure
