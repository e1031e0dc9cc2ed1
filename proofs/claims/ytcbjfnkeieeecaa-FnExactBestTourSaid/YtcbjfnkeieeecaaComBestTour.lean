import Derived.Test.YtcbjfnkeieeecaaGLBestTour0
import Derived.Test.YtcbjfnkeieeecaaGLBestTour1
import Derived.Test.YtcbjfnkeieeecaaGLBestTour2
import Derived.Test.YtcbjfnkeieeecaaGLBestTour3
import Derived.Test.YtcbjfnkeieeecaaGLBestTour4
import Derived.Test.YtcbjfnkeieeecaaGLBestTour5
namespace Go.Proofs.Ytcbjfnkeieeecaa.Pure
open Go.RowKit Go.Proofs.Ytcbjfnkeieeecaa.GLBestTour Go.Proofs.YtcbjfnkeieeecaaW.PrintWords Go.Proofs.YtcbjfnkeieeecaaW.PrintLast Go.Proofs.YtcbjfnkeieeecaaW.PrintMore Go.Proofs.YtcbjfnkeieeecaaW.PrintOwn
set_option linter.unusedVariables false
set_option linter.unusedSimpArgs false
theorem Ev.bindc {α β : Type} {g : Option α} {f : Nat → α → Option β} {a : α} {r : β} (h : g = some a) (k : Ev (fun n => f n a) r) : Ev (fun n => g.bind (f n)) r := by
  subst h
  exact k
/-- One round. -/
theorem Ev.round {α : Type} {g f : Nat → Option α} {r : α} (h : ∀ k, g (k + 1) = f k) (k : Ev f r) : Ev g r := Ev.step h k
theorem Ev.eqv {α : Type} {g f : Nat → Option α} {r : α} (h : ∀ k, g k = f k) (k : Ev f r) : Ev g r := Ev.congr h k
theorem Ev.cast {α : Type} {g : Nat → Option α} {r r' : α} (h : Ev g r) (e : r = r') : Ev g r' := e ▸ h
theorem Ev.ite_pos {α : Type} {c : Prop} [Decidable c] {g f : Nat → Option α} {r : α} (hc : c) (k : Ev g r) : Ev (fun n => if c then g n else f n) r := by
  refine Ev.eqv (fun n => ?_) k
  rw [if_pos hc]
theorem Ev.ite_neg {α : Type} {c : Prop} [Decidable c] {g f : Nat → Option α} {r : α} (hc : ¬ c) (k : Ev f r) : Ev (fun n => if c then g n else f n) r := by
  refine Ev.eqv (fun n => ?_) k
  rw [if_neg hc]
theorem getD_mid {α : Type} (d : α) (pre suf : List α) (x : α) : (pre ++ x :: suf).getD (pre.length : Int).toNat d = x := by
  rw [Int.toNat_natCast, List.getD_eq_getElem?_getD, List.getElem?_append_right (Nat.le_refl _), Nat.sub_self]
  rfl
theorem rd_mid (pre suf : List Int) (x : Int) : rd (pre ++ x :: suf) (pre.length : Int) = x := getD_mid 0 pre suf x
theorem lt_mid {α : Type} (pre suf : List α) (x : α) : (pre.length : Int) < ((pre ++ x :: suf).length : Int) := by
  rw [List.length_append, List.length_cons]; omega
theorem up_mid {α : Type} (pre suf : List α) (x : α) (h : (pre ++ x :: suf).length ≤ 9223372036854775807) : wrap64 ((pre.length : Int) + 1) = ((pre ++ [x]).length : Int) := by
  rw [List.length_append, List.length_cons] at h
  rw [List.length_append, List.length_singleton]
  unfold wrap64
  omega
theorem snoc_mid {α : Type} (pre suf : List α) (x : α) : pre ++ x :: suf = (pre ++ [x]) ++ suf := by simp
/-- Where a number first stands, -1 if nowhere. -/
def idxI (l : List Int) (n : Int) : Int := match l.findIdx? (fun x => x == n) with
  | some i => (i : Int)
  | none => -1
theorem idxI_nil (n : Int) : idxI [] n = -1 := rfl
theorem idxI_cons (x : Int) (l : List Int) (n : Int) : idxI (x :: l) n = if x = n then 0 else if idxI l n = -1 then -1 else idxI l n + 1 := by
  unfold idxI
  rw [List.findIdx?_cons]
  by_cases c : x = n
  · simp [c]
  · simp only [beq_iff_eq, c, if_false]
    cases h : l.findIdx? fun x => x == n with
    | none => simp
    | some i =>
      have : ¬ ((i : Int) = -1) := by omega
      simp [this]
theorem idxI_ge (l : List Int) (n : Int) : -1 ≤ idxI l n := by
  unfold idxI
  split <;> omega
theorem idxI_mem (l : List Int) (n : Int) : decide (idxI l n ≥ 0) = decide (n ∈ l) := by
  induction l with
  | nil => rfl
  | cons x l ih =>
    rw [idxI_cons]
    have hg := idxI_ge l n
    by_cases c : x = n
    · simp [c]
    · rw [if_neg c]
      rw [decide_eq_decide] at ih ⊢
      rw [List.mem_cons]
      split
      · have : ¬ n ∈ l := fun h => by have := ih.2 h; omega
        simp [Ne.symm c, this]
      · have : n ∈ l := ih.1 (by omega)
        simp [this]
        omega
theorem ev_eqIntS_l (a b : List Int) (hab : a.length = b.length) (hn : a.length ≤ 9223372036854775807) : ∀ (sa pa sb pb : List Int), a = pa ++ sa → b = pb ++ sb → pa.length = pb.length → Ev (fun k => laws_eqIntS.l0 k a b (pa.length : Int)) (decide (sa = sb))
  | [], pa, sb, pb, ea, eb, hp => by
    subst ea
    refine Ev.round (f := fun _ => some true) (fun k => ?_) (Ev.cast (Ev.now _) ?_)
    · simp only [laws_eqIntS.l0]
      rw [if_neg (by simp)]
    · have : sb = [] := by
        rw [eb] at hab
        simp at hab
        exact List.length_eq_zero_iff.1 (by omega)
      rw [this]; rfl
  | x :: sa, pa, [], pb, ea, eb, hp => by
    rw [ea, eb] at hab
    simp at hab
    omega
  | x :: sa, pa, y :: sb, pb, ea, eb, hp => by
    subst ea
    subst eb
    have h1 : ((pa.length : Nat) : Int) = (pb.length : Int) := by omega
    by_cases e : x = y
    · subst e
      have ih := ev_eqIntS_l (pa ++ x :: sa) (pb ++ x :: sb) hab hn sa (pa ++ [x]) sb (pb ++ [x]) (snoc_mid _ _ _) (snoc_mid _ _ _) (by simp [hp])
      refine Ev.round (fun k => ?_) (Ev.cast ih (by simp))
      simp only [laws_eqIntS.l0]
      rw [if_pos (lt_mid _ _ _), if_pos (by omega), if_pos (by rw [h1]; exact lt_mid _ _ _), rd_mid, h1, rd_mid, if_pos rfl, ← h1, up_mid _ _ _ hn]
    · refine Ev.round (f := fun _ => some false) (fun k => ?_) (Ev.cast (Ev.now _) (by simp [e]))
      simp only [laws_eqIntS.l0]
      rw [if_pos (lt_mid _ _ _), if_pos (by omega), if_pos (by rw [h1]; exact lt_mid _ _ _), rd_mid, h1, rd_mid, if_neg e]
theorem ev_eqIntS (a b : List Int) (hn : a.length ≤ 9223372036854775807) : Ev (fun k => laws_eqIntS.f k a b) (decide (a = b)) := by
  unfold laws_eqIntS.f
  by_cases h : a.length = b.length
  · exact Ev.ite_pos (by omega) (ev_eqIntS_l a b h hn a [] b [] rfl rfl rfl)
  · refine Ev.ite_neg (by omega) (Ev.cast (Ev.now _) ?_)
    rw [decide_eq_false]
    rintro rfl
    exact h rfl
theorem in_eq (a lo hi : Int) : spec_l1In.f a lo hi = some (decide (lo ≤ a) && decide (a ≤ hi)) := by
  unfold spec_l1In.f
  by_cases h : a ≥ lo
  · rw [if_pos h]; simp [h]
  · rw [if_neg h]; simp [h]
theorem ev_l1Has_l (l : List Int) (n : Int) (hn : l.length ≤ 9223372036854775807) : ∀ (suf pre : List Int), l = pre ++ suf → Ev (fun k => spec_l1Has.l0 k n l (l.length : Int) (pre.length : Int)) (decide (n ∈ suf))
  | [], pre, e => by
    subst e
    refine Ev.round (f := fun _ => some false) (fun k => ?_) (Ev.cast (Ev.now _) (by simp))
    simp only [spec_l1Has.l0]
    rw [if_neg (by simp)]
  | x :: suf, pre, e => by
    subst e
    by_cases c : x = n
    · refine Ev.round (f := fun _ => some true) (fun k => ?_) (Ev.cast (Ev.now _) (by simp [c]))
      simp only [spec_l1Has.l0]
      rw [if_pos (lt_mid _ _ _), if_pos (by omega), if_pos (lt_mid _ _ _), rd_mid, if_pos c]
    · have ih := ev_l1Has_l (pre ++ x :: suf) n hn suf (pre ++ [x]) (snoc_mid _ _ _)
      refine Ev.round (fun k => ?_) (Ev.cast ih (by simp [Ne.symm c]))
      simp only [spec_l1Has.l0]
      rw [if_pos (lt_mid _ _ _), if_pos (by omega), if_pos (lt_mid _ _ _), rd_mid, if_neg c, up_mid _ _ _ hn]
theorem ev_l1Has (l : List Int) (n : Int) (hn : l.length ≤ 9223372036854775807) : Ev (fun k => spec_l1Has.f k l n) (decide (n ∈ l)) := ev_l1Has_l l n hn l [] rfl
theorem ev_Index_l (l : List Int) (n : Int) (hn : l.length ≤ 9223372036854775807) : ∀ (suf pre : List Int), l = pre ++ suf → Ev (fun k => slices_Index_int_int.l0 k l n (l.length : Int) (pre.length : Int)) (if idxI suf n = -1 then -1 else (pre.length : Int) + idxI suf n)
  | [], pre, e => by
    subst e
    refine Ev.round (f := fun _ => some (-1)) (fun k => ?_) (Ev.cast (Ev.now _) (by rw [idxI_nil, if_pos rfl]))
    simp only [slices_Index_int_int.l0]
    rw [if_neg (by simp)]
  | x :: suf, pre, e => by
    subst e
    by_cases c : x = n
    · refine Ev.round (f := fun _ => some (pre.length : Int)) (fun k => ?_) (Ev.cast (Ev.now _) (by rw [idxI_cons, if_pos c, if_neg (by omega)]; omega))
      simp only [slices_Index_int_int.l0]
      rw [if_pos (lt_mid _ _ _), if_pos (by omega), if_pos (lt_mid _ _ _), rd_mid, if_pos c.symm]
    · have ih := ev_Index_l (pre ++ x :: suf) n hn suf (pre ++ [x]) (snoc_mid _ _ _)
      have hg := idxI_ge suf n
      refine Ev.round (fun k => ?_) (Ev.cast ih (by rw [idxI_cons, if_neg c, List.length_append, List.length_singleton]; by_cases e : idxI suf n = -1 <;> simp [e]; omega))
      simp only [slices_Index_int_int.l0]
      rw [if_pos (lt_mid _ _ _), if_pos (by omega), if_pos (lt_mid _ _ _), rd_mid, if_neg (Ne.symm c), up_mid _ _ _ hn]
theorem ev_Index (l : List Int) (n : Int) (hn : l.length ≤ 9223372036854775807) : Ev (fun k => slices_Index_int_int.f k l n) (idxI l n) :=
  Ev.cast (ev_Index_l l n hn l [] rfl) (by have := idxI_ge l n; split <;> simp_all)
theorem ev_Contains (l : List Int) (n : Int) (hn : l.length ≤ 9223372036854775807) : Ev (fun k => slices_Contains_int_int.f k l n) (decide (n ∈ l)) := by
  unfold slices_Contains_int_int.f
  exact Ev.bind (ev_Index l n hn) (Ev.cast (Ev.now _) (idxI_mem l n))
/-- n numbers from a on. -/
def upFrom (a : Int) : Nat → List Int
  | 0 => []
  | n + 1 => a :: upFrom (a + 1) n
theorem ev_markIntS_l : ∀ (suf pre : List Int) (a : Int), 0 ≤ a → a + suf.length ≤ 4611686018427387904 → pre.length + suf.length ≤ 4611686018427387904 → Ev (fun k => laws_markIntS.l0 k (pre ++ suf) a (pre.length : Int)) (a + suf.length, pre ++ upFrom a suf.length)
  | [], pre, a, h0, h1, h2 => by
    refine Ev.round (f := fun _ => some (a, pre ++ [])) (fun k => ?_) (Ev.cast (Ev.now _) (by simp [upFrom]))
    simp only [laws_markIntS.l0]
    rw [if_neg (by simp)]
  | x :: suf, pre, a, h0, h1, h2 => by
    rw [List.length_cons] at h1 h2
    have ih := ev_markIntS_l suf (pre ++ [a]) (a + 1) (by omega) (by omega) (by simp; omega)
    refine Ev.round (fun k => ?_) (Ev.cast ih (by rw [List.length_cons, upFrom]; simp; omega))
    simp only [laws_markIntS.l0]
    have hw : wrap64 (a + 1) = a + 1 := by unfold wrap64; omega
    have hw2 : wrap64 ((pre.length : Int) + 1) = ((pre ++ [a]).length : Int) := by unfold wrap64; simp; omega
    rw [if_pos (lt_mid _ _ _), if_pos (by omega), hw, hw2, Int.toNat_natCast, List.set_append_right _ _ (Nat.le_refl _), Nat.sub_self, List.set_cons_zero]
    simp
theorem ev_markIntS (l : List Int) (a : Int) (h0 : 0 ≤ a) (h1 : a + l.length ≤ 4611686018427387904) : Ev (fun k => laws_markIntS.f k l a) (a + l.length, upFrom a l.length) := ev_markIntS_l l [] a h0 h1 (by simp; omega)
theorem ev_heldIntS_l : ∀ (n : Nat) (pre : List Int) (a : Int), 0 ≤ a → a + n ≤ 4611686018427387904 → pre.length + n ≤ 4611686018427387904 → Ev (fun k => laws_heldIntS.l0 k (pre ++ upFrom a n) a (pre.length : Int)) (a + n)
  | 0, pre, a, h0, h1, h2 => by
    refine Ev.round (f := fun _ => some a) (fun k => ?_) (Ev.cast (Ev.now _) (by simp))
    simp only [laws_heldIntS.l0]
    rw [if_neg (by simp [upFrom])]
  | n + 1, pre, a, h0, h1, h2 => by
    have ih := ev_heldIntS_l n (pre ++ [a]) (a + 1) (by omega) (by omega) (by simp; omega)
    refine Ev.round (fun k => ?_) (Ev.cast ih (by omega))
    rw [upFrom]
    simp only [laws_heldIntS.l0]
    have hw : wrap64 (a + 1) = a + 1 := by unfold wrap64; omega
    have hw2 : wrap64 ((pre.length : Int) + 1) = ((pre ++ [a]).length : Int) := by unfold wrap64; simp; omega
    rw [if_pos (lt_mid _ _ _), if_pos (by omega), rd_mid, if_pos rfl, hw, hw2]
    simp
theorem ev_heldIntS (a : Int) (n : Nat) (h0 : 0 ≤ a) (h1 : a + n ≤ 4611686018427387904) : Ev (fun k => laws_heldIntS.f k (upFrom a n) a) (a + n) := ev_heldIntS_l n [] a h0 h1 (by simp; omega)
/-- The way between two spots. -/
def wayZ (a b c d : Int) : Int := if a = c then (if b < d then d - b else b - d) else 3 * (if a < c then c - a else a - c) + (if 40 - (b + d) < b + d then 40 - (b + d) else b + d)
theorem way_spec {a b c d : Int} (h : 0 ≤ a ∧ a ≤ 9 ∧ 0 ≤ b ∧ b ≤ 20) (k : 0 ≤ c ∧ c ≤ 9 ∧ 0 ≤ d ∧ d ≤ 20) : spec_l11Way.f a b c d = some (wayZ a b c d) := by
  have w1 : wrap64 (b - d) = b - d := by unfold wrap64; omega
  have w2 : wrap64 (b + d) = b + d := by unfold wrap64; omega
  have w3 : wrap64 (40 - (b + d)) = 40 - (b + d) := by unfold wrap64; omega
  have w4 : wrap64 (a - c) = a - c := by unfold wrap64; omega
  have w5 : wrap64 (-(a - c)) = c - a := by unfold wrap64; omega
  have w6 : wrap64 (-(b - d)) = d - b := by unfold wrap64; omega
  have w7 : wrap64 (3 * (a - c)) = 3 * (a - c) := by unfold wrap64; omega
  have w8 : wrap64 (3 * (c - a)) = 3 * (c - a) := by unfold wrap64; omega
  have w9 : wrap64 (3 * (a - c) + (b + d)) = 3 * (a - c) + (b + d) := by unfold wrap64; omega
  have w10 : wrap64 (3 * (c - a) + (b + d)) = 3 * (c - a) + (b + d) := by unfold wrap64; omega
  have w11 : wrap64 (3 * (a - c) + (40 - (b + d))) = 3 * (a - c) + (40 - (b + d)) := by unfold wrap64; omega
  have w12 : wrap64 (3 * (c - a) + (40 - (b + d))) = 3 * (c - a) + (40 - (b + d)) := by unfold wrap64; omega
  unfold spec_l11Way.f wayZ spec_l1Abs.f
  simp only [w1, w2, w3, w4]
  by_cases e : a = c
  · rw [if_pos e, if_pos e]
    by_cases l : b - d < 0
    · rw [if_pos l, if_pos (by omega)]; simp [w6]
    · rw [if_neg l, if_neg (by omega)]; simp
  · rw [if_neg e, if_neg e]
    by_cases m : 40 - (b + d) < b + d
    · rw [if_pos m, if_pos m]
      by_cases l : a - c < 0
      · rw [if_pos l, if_pos (by omega)]; simp [w5, w8, w12]
      · rw [if_neg l, if_neg (by omega)]; simp [w7, w11]
    · rw [if_neg m, if_neg m]
      by_cases l : a - c < 0
      · rw [if_pos l, if_pos (by omega)]; simp [w5, w8, w10]
      · rw [if_neg l, if_neg (by omega)]; simp [w7, w9]
theorem way_impl {a b c d : Int} (h : 0 ≤ a ∧ a ≤ 9 ∧ 0 ≤ b ∧ b ≤ 20) (k : 0 ≤ c ∧ c ≤ 9 ∧ 0 ≤ d ∧ d ≤ 20) : impl_way.f a b c d = some (wayZ a b c d) := by
  have w1 : wrap64 (b - d) = b - d := by unfold wrap64; omega
  have w1' : wrap64 (d - b) = d - b := by unfold wrap64; omega
  have w2 : wrap64 (b + d) = b + d := by unfold wrap64; omega
  have w3 : wrap64 (40 - (b + d)) = 40 - (b + d) := by unfold wrap64; omega
  have w4 : wrap64 (a - c) = a - c := by unfold wrap64; omega
  have w4' : wrap64 (c - a) = c - a := by unfold wrap64; omega
  unfold impl_way.f wayZ
  simp only [w1, w1', w2, w3, w4, w4']
  by_cases e : a = c
  · rw [if_pos e, if_pos e]
    congr 1
    unfold mx
    split <;> split <;> omega
  · rw [if_neg e, if_neg e]
    congr 1
    have hm : mx (a - c) (c - a) = if a < c then c - a else a - c := by unfold mx; split <;> split <;> omega
    have hn : mn (b + d) (40 - (b + d)) = if 40 - (b + d) < b + d then 40 - (b + d) else b + d := by unfold mn; split <;> rfl
    rw [hm, hn]
    have w7 : wrap64 (3 * (if a < c then c - a else a - c)) = 3 * (if a < c then c - a else a - c) := by unfold wrap64; split <;> omega
    rw [w7]
    unfold wrap64
    split <;> split <;> omega
theorem ev_toSpotS_l (l : List S23) (hn : l.length ≤ 17592186044416) : ∀ (suf pre : List S23), l = pre ++ suf → ∀ (z : List S26), z.length = suf.length → Ev (fun k => laws_toSpotS.l0 k l (pre.map (fun s => ⟨s.f0, s.f1⟩) ++ z) (pre.length : Int)) (l.map fun s => (⟨s.f0, s.f1⟩ : S26))
  | [], pre, e, z, hz => by
    subst e
    have : z = [] := List.length_eq_zero_iff.1 hz
    subst this
    refine Ev.round (f := fun _ => some _) (fun k => ?_) (Ev.now _)
    simp only [laws_toSpotS.l0]
    rw [if_neg (by simp)]
    simp
  | x :: suf, pre, e, [], hz => by simp at hz
  | x :: suf, pre, e, y :: z, hz => by
    subst e
    have ih := ev_toSpotS_l (pre ++ x :: suf) hn suf (pre ++ [x]) (snoc_mid _ _ _) z (by simpa using hz)
    refine Ev.round (fun k => ?_) ih
    simp only [laws_toSpotS.l0]
    have hr : rd_T23 (pre ++ x :: suf) (pre.length : Int) = x := getD_mid _ pre suf x
    rw [if_pos (lt_mid _ _ _), if_pos (by omega), hr]
    simp only [laws_toSpot.f, Option.bind_some]
    rw [if_pos (by simp; omega), up_mid pre suf x (by omega)]
    congr 1
    rw [Int.toNat_natCast, List.set_append_right _ _ (by simp)]
    simp
theorem ev_toSpotS (l : List S23) (hn : l.length ≤ 17592186044416) : Ev (fun k => laws_toSpotS.f k l) (l.map fun s => (⟨s.f0, s.f1⟩ : S26)) := by
  have h := ev_toSpotS_l l hn l [] rfl (List.replicate l.length z26) (by simp)
  refine Ev.eqv (fun k => ?_) h
  unfold laws_toSpotS.f
  rw [if_pos (by omega), Int.toNat_natCast, if_pos hn]
  rfl
theorem eqSpot_eq (a b c d : Int) : laws_eqSpot.f a b c d = some (decide (a = c) && decide (b = d)) := by
  unfold laws_eqSpot.f
  by_cases e : a = c
  · by_cases e' : b = d
    · simp [e, e']
    · simp [e, e']
  · simp [e]
theorem ev_eqSpotS_l (l : List S26) (hn : l.length ≤ 9223372036854775807) : ∀ (suf pre : List S26), l = pre ++ suf → Ev (fun k => laws_eqSpotS.l0 k l l (pre.length : Int)) true
  | [], pre, e => by
    subst e
    refine Ev.round (f := fun _ => some true) (fun k => ?_) (Ev.now _)
    simp only [laws_eqSpotS.l0]
    rw [if_neg (by simp)]
  | x :: suf, pre, e => by
    subst e
    have ih := ev_eqSpotS_l (pre ++ x :: suf) hn suf (pre ++ [x]) (snoc_mid _ _ _)
    refine Ev.round (fun k => ?_) ih
    simp only [laws_eqSpotS.l0]
    have hr : rd_T26 (pre ++ x :: suf) (pre.length : Int) = x := getD_mid _ pre suf x
    rw [if_pos (lt_mid _ _ _), if_pos (by omega), if_pos (lt_mid _ _ _), hr, eqSpot_eq]
    simp only [Option.bind_some, decide_true, Bool.and_self, if_true]
    rw [up_mid _ _ _ hn]
theorem ev_eqSpotS (l : List S26) (hn : l.length ≤ 9223372036854775807) : Ev (fun k => laws_eqSpotS.f k l l) true := by
  unfold laws_eqSpotS.f
  exact Ev.ite_pos rfl (ev_eqSpotS_l l hn l [] rfl)
theorem spot_spec (a b : Int) : spec_l11Spot.f a b = some (impl_GoodStops.p ⟨a, b⟩) := by
  unfold spec_l11Spot.f impl_GoodStops.p
  rw [in_eq]; simp only [Option.bind_some]
  cases (decide (0 ≤ a) && decide (a ≤ 9))
  · simp
  · simp [in_eq]
def goodStops (l : List S26) : Bool := (decide (1 ≤ (l.length : Int)) && decide ((l.length : Int) ≤ 7)) && l.all impl_GoodStops.p
theorem ev_GoodStops_l (l : List S26) (hn : l.length ≤ 9223372036854775807) : ∀ (suf pre : List S26), l = pre ++ suf → Ev (fun k => spec_GoodStops.l0 k l l (l.length : Int) (pre.length : Int)) ((decide (1 ≤ (l.length : Int)) && decide ((l.length : Int) ≤ 7)) && suf.all impl_GoodStops.p)
  | [], pre, e => by
    refine Ev.round (f := fun _ => some (decide (1 ≤ (l.length : Int)) && decide ((l.length : Int) ≤ 7))) (fun k => ?_) (Ev.cast (Ev.now _) (by simp))
    simp only [spec_GoodStops.l0]
    rw [if_neg (by subst e; simp), in_eq]
    rfl
  | x :: suf, pre, e => by
    subst e
    have hr : rd_T26 (pre ++ x :: suf) (pre.length : Int) = x := getD_mid _ pre suf x
    cases c : impl_GoodStops.p x with
    | true =>
      have ih := ev_GoodStops_l (pre ++ x :: suf) hn suf (pre ++ [x]) (snoc_mid _ _ _)
      refine Ev.round (fun k => ?_) (Ev.cast ih (by rw [List.all_cons, c, Bool.true_and]))
      simp only [spec_GoodStops.l0]
      rw [if_pos (lt_mid _ _ _), if_pos (by omega), if_pos (lt_mid _ _ _), hr, spot_spec, Option.bind_some, if_pos c, up_mid _ _ _ hn]
    | false =>
      refine Ev.round (f := fun _ => some false) (fun k => ?_) (Ev.cast (Ev.now _) (by rw [List.all_cons, c, Bool.false_and, Bool.and_false]))
      simp only [spec_GoodStops.l0]
      have c' : ¬ impl_GoodStops.p (⟨x.f0, x.f1⟩ : S26) = true := by show ¬ impl_GoodStops.p x = true; rw [c]; decide
      rw [if_pos (lt_mid _ _ _), if_pos (by omega), if_pos (lt_mid _ _ _), hr, spot_spec, Option.bind_some, if_neg c']
theorem ev_GoodStops (l : List S26) (hn : l.length ≤ 9223372036854775807) : Ev (fun k => spec_GoodStops.f k l) (goodStops l) := ev_GoodStops_l l hn l [] rfl
theorem implGoodStops (l : List S26) : impl_GoodStops.f l = some (goodStops l) := rfl
/-- The way between two stops by their numbers. -/
def wy (L : List S26) (i k : Int) : Int := wayZ (rd_T26 L i).f0 (rd_T26 L i).f1 (rd_T26 L k).f0 (rd_T26 L k).f1
theorem stop_ok {L : List S26} (hg : ∀ s ∈ L, impl_GoodStops.p s = true) {i : Int} (h0 : 0 ≤ i) (h1 : i < (L.length : Int)) : 0 ≤ (rd_T26 L i).f0 ∧ (rd_T26 L i).f0 ≤ 9 ∧ 0 ≤ (rd_T26 L i).f1 ∧ (rd_T26 L i).f1 ≤ 20 := by
  have h := hg (rd_T26 L i) (getD_mem _ (by omega))
  unfold impl_GoodStops.p at h
  simp at h
  omega
theorem wy_spec {L : List S26} (hg : ∀ s ∈ L, impl_GoodStops.p s = true) {i k : Int} (h0 : 0 ≤ i) (h1 : i < (L.length : Int)) (k0 : 0 ≤ k) (k1 : k < (L.length : Int)) :
    spec_l11Way.f (rd_T26 L i).f0 (rd_T26 L i).f1 (rd_T26 L k).f0 (rd_T26 L k).f1 = some (wy L i k) := way_spec (stop_ok hg h0 h1) (stop_ok hg k0 k1)
theorem wy_impl {L : List S26} (hg : ∀ s ∈ L, impl_GoodStops.p s = true) {i k : Int} (h0 : 0 ≤ i) (h1 : i < (L.length : Int)) (k0 : 0 ≤ k) (k1 : k < (L.length : Int)) :
    impl_way.f (rd_T26 L i).f0 (rd_T26 L i).f1 (rd_T26 L k).f0 (rd_T26 L k).f1 = some (wy L i k) := way_impl (stop_ok hg h0 h1) (stop_ok hg k0 k1)
theorem ev_markSpotS_l : ∀ (n : Nat) (l : List S26) (j : Nat) (a : Int), j + n = l.length → l.length ≤ 4611686018427387904 → 0 ≤ a → a + 2 * n ≤ 4611686018427387904 → ∃ l', Ev (fun k => laws_markSpotS.l0 k l a (j : Int)) (a + 2 * n, l')
  | 0, l, j, a, hj, hl, h0, h9 => by
    refine ⟨l, Ev.round (f := fun _ => some (a, l)) (fun k => ?_) (Ev.cast (Ev.now _) (by simp))⟩
    simp only [laws_markSpotS.l0]
    rw [if_neg (by omega)]
  | n + 1, l, j, a, hj, hl, h0, h9 => by
    have w1 : wrap64 (a + 1) = a + 1 := by unfold wrap64; omega
    have w2 : wrap64 (a + 1 + 1) = a + 2 := by unfold wrap64; omega
    have w3 : wrap64 ((j : Int) + 1) = ((j + 1 : Nat) : Int) := by unfold wrap64; omega
    obtain ⟨l', h⟩ := ev_markSpotS_l n ((l.set (j : Int).toNat (⟨a, (rd_T26 l (j : Int)).f1⟩ : S26)).set (j : Int).toNat (⟨(rd_T26 (l.set (j : Int).toNat (⟨a, (rd_T26 l (j : Int)).f1⟩ : S26)) (j : Int)).f0, a + 1⟩ : S26)) (j + 1) (a + 2) (by simp; omega) (by simpa using hl) (by omega) (by omega)
    refine ⟨l', Ev.round (fun k => ?_) (Ev.cast h (by congr 1; omega))⟩
    simp only [laws_markSpotS.l0]
    rw [if_pos (by omega), if_pos (by omega), Option.bind_some, w1, w2, w3]
theorem ev_markSpotS (l : List S26) (a : Int) (hl : l.length ≤ 1048576) (h0 : 0 ≤ a) (h9 : a ≤ 1073741824) : ∃ l', Ev (fun k => laws_markSpotS.f k l a) (a + 2 * l.length, l') := by
  obtain ⟨l', h⟩ := ev_markSpotS_l l.length l 0 a (by omega) (by omega) h0 (by omega)
  exact ⟨l', h⟩
theorem rd_mem' {l : List Int} {i : Int} (h0 : 0 ≤ i) (h1 : i < (l.length : Int)) : rd l i ∈ l := getD_mem 0 (by omega)
theorem cost_l (L : List S26) (hg : ∀ s ∈ L, impl_GoodStops.p s = true) (o : List Int) (ho : ∀ x ∈ o, 0 ≤ x ∧ x < (L.length : Int)) (hn : o.length ≤ 4611686018427387904) : ∀ (m j : Nat) (s : Int), j + m = o.length →
    ∃ c, Ev (fun k => spec_l11Cost.l0 k L o s o (o.length : Int) (j : Int)) c ∧ Ev (fun k => impl_tourCost.l0 k L o s o (o.length : Int) (j : Int)) c
  | 0, j, s, hj => by
    refine ⟨s, Ev.round (f := fun _ => some s) (fun k => ?_) (Ev.now _), Ev.round (f := fun _ => some s) (fun k => ?_) (Ev.now _)⟩
    · simp only [spec_l11Cost.l0]
      rw [if_neg (by omega)]
    · simp only [impl_tourCost.l0]
      rw [if_neg (by omega)]
  | m + 1, j, s, hj => by
    have hw : wrap64 ((j : Int) + 1) = (j : Int) + 1 := by unfold wrap64; omega
    have hn1 : ((j + 1 : Nat) : Int) = (j : Int) + 1 := by omega
    have q0 : 0 ≤ Int.tmod ((j : Int) + 1) (o.length : Int) := Int.tmod_nonneg _ (by omega)
    have q1 : Int.tmod ((j : Int) + 1) (o.length : Int) < (o.length : Int) := Int.tmod_lt_of_pos _ (by omega)
    have ha := ho _ (rd_mem' (l := o) (i := (j : Int)) (by omega) (by omega))
    have hb := ho _ (rd_mem' q0 q1)
    obtain ⟨c, h1, h2⟩ := cost_l L hg o ho hn m (j + 1) (wrap64 (s + wy L (rd o (j : Int)) (rd o (Int.tmod ((j : Int) + 1) (o.length : Int))))) (by omega)
    rw [hn1] at h1 h2
    refine ⟨c, ?_, ?_⟩
    · refine Ev.round (fun k => by simp only [spec_l11Cost.l0]; rw [if_pos (show (j : Int) < (o.length : Int) by omega), hw]) ?_
      exact Ev.ite_pos (by omega) (Ev.ite_pos (by omega) (Ev.ite_pos ha.1 (Ev.ite_pos ha.2 (Ev.ite_neg (by omega) (Ev.ite_pos q0 (Ev.ite_pos q1 (Ev.ite_pos hb.1 (Ev.ite_pos hb.2 (Ev.bindc (wy_spec hg ha.1 ha.2 hb.1 hb.2) h1)))))))))
    · refine Ev.round (fun k => by simp only [impl_tourCost.l0]; rw [if_pos (show (j : Int) < (o.length : Int) by omega), hw]) ?_
      exact Ev.ite_pos (by omega) (Ev.ite_pos (by omega) (Ev.ite_pos ha.1 (Ev.ite_pos ha.2 (Ev.ite_neg (by omega) (Ev.ite_pos q0 (Ev.ite_pos q1 (Ev.ite_pos hb.1 (Ev.ite_pos hb.2 (Ev.bindc (wy_impl hg ha.1 ha.2 hb.1 hb.2) h2)))))))))
theorem costs (L : List S26) (hg : ∀ s ∈ L, impl_GoodStops.p s = true) (o : List Int) (ho : ∀ x ∈ o, 0 ≤ x ∧ x < (L.length : Int)) (hn : o.length ≤ 4611686018427387904) : ∃ c, Ev (fun k => spec_l11Cost.f k L o) c ∧ Ev (fun k => impl_tourCost.f k L o) c := cost_l L hg o ho hn o.length 0 0 (by omega)
def combC (C : List Int → Int) (b x : List Int) : List Int := if b = [] then x else if x = [] then b else if C x < C b then x else b
theorem comb_nil (C : List Int → Int) (x : List Int) : combC C [] x = x := by unfold combC; rw [if_pos rfl]
theorem comb_assoc (C : List Int → Int) (a b c : List Int) : combC C (combC C a b) c = combC C a (combC C b c) := by
  unfold combC
  by_cases ha : a = []
  · rw [if_pos ha, if_pos ha]
  · by_cases hb : b = []
    · simp [ha, hb]
    · by_cases hc : c = []
      · simp only [ha, hb, hc, if_false, if_true]
        split <;> simp [ha, hb]
      · simp only [ha, hb, hc, if_false]
        by_cases h1 : C b < C a <;> by_cases h2 : C c < C b
        · simp only [h1, h2, if_true, hb, hc, if_false, if_pos (show C c < C a by omega)]
        · simp only [h1, h2, if_true, hb, if_false]
        · simp only [h1, h2, if_true, ha, hc, if_false]
        · have h3 : ¬ C c < C a := by omega
          simp only [h1, h2, h3, ha, hb, if_false]
theorem comb_ne (C : List Int → Int) {a b : List Int} (h : a ≠ [] ∨ b ≠ []) : combC C a b ≠ [] := by
  unfold combC
  by_cases ha : a = []
  · rw [if_pos ha]
    exact h.resolve_left (fun e => e ha)
  · rw [if_neg ha]
    by_cases hb : b = []
    · rw [if_pos hb]; exact ha
    · rw [if_neg hb]
      split <;> assumption
theorem comb_or (C : List Int → Int) (a b : List Int) : combC C a b = a ∨ combC C a b = b := by
  unfold combC
  split
  · exact Or.inr rfl
  · split
    · exact Or.inl rfl
    · split
      · exact Or.inr rfl
      · exact Or.inl rfl
def loopF (C : List Int → Int) (g : List Int → List Int) (bg : List Int) : Nat → Int → List Int → List Int
  | 0, _, acc => acc
  | j + 1, k, acc => loopF C g bg j (k + 1) (if k ∈ bg then acc else combC C acc (g (bg ++ [k])))
def bestF (C : List Int → Int) (n : Nat) : Nat → List Int → List Int
  | 0, bg => bg
  | m + 1, bg => loopF C (bestF C n m) bg n 0 []
theorem loop_comb (C : List Int → Int) (g : List Int → List Int) (bg : List Int) : ∀ (j : Nat) (k : Int) (acc : List Int), loopF C g bg j k acc = combC C acc (loopF C g bg j k [])
  | 0, k, acc => by
    simp only [loopF, combC]
    split
    · assumption
    · rfl
  | j + 1, k, acc => by
    simp only [loopF]
    by_cases c : k ∈ bg
    · rw [if_pos c, if_pos c]; exact loop_comb C g bg j (k + 1) acc
    · rw [if_neg c, if_neg c, loop_comb C g bg j (k + 1) (combC C acc _), loop_comb C g bg j (k + 1) (combC C [] _), comb_nil, comb_assoc]
theorem loop_ne (C : List Int → Int) (g : List Int → List Int) (bg : List Int) : ∀ (j : Nat) (k : Int) (acc : List Int), (acc ≠ [] ∨ ∃ i : Int, k ≤ i ∧ i < k + j ∧ ¬ i ∈ bg ∧ g (bg ++ [i]) ≠ []) → loopF C g bg j k acc ≠ []
  | 0, k, acc, h => by
    rcases h with h | ⟨i, h1, h2, _⟩
    · exact h
    · omega
  | j + 1, k, acc, h => by
    simp only [loopF]
    refine loop_ne C g bg j (k + 1) _ ?_
    rcases h with h | ⟨i, h1, h2, h3, h4⟩
    · left
      split
      · exact h
      · exact comb_ne C (Or.inl h)
    · by_cases e : i = k
      · subst e
        left
        rw [if_neg h3]
        exact comb_ne C (Or.inr h4)
      · exact Or.inr ⟨i, by omega, by omega, h3, h4⟩
theorem left_out' : ∀ (n : Nat) (l : List Int), (∀ i : Int, 0 ≤ i → i < (n : Int) → i ∈ l) → n ≤ l.length
  | 0, _, _ => Nat.zero_le _
  | n + 1, l, h => by
    have hm : ((n : Nat) : Int) ∈ l := h n (by omega) (by omega)
    have h2 := left_out' n (l.erase (n : Int)) (fun i h0 h1 => (List.mem_erase_of_ne (by omega)).2 (h i h0 (by omega)))
    rw [List.length_erase_of_mem hm] at h2
    have := List.length_pos_of_mem hm
    omega
theorem best_ne (C : List Int → Int) (n : Nat) : ∀ (m : Nat) (bg : List Int), bg ≠ [] → bg.length + m = n → bestF C n m bg ≠ []
  | 0, bg, h, _ => h
  | m + 1, bg, h, hm => by
    simp only [bestF]
    refine loop_ne C _ bg n 0 [] (Or.inr ?_)
    by_cases hx : ∃ i : Int, 0 ≤ i ∧ i < (n : Int) ∧ ¬ i ∈ bg
    · obtain ⟨i, h0, h1, h2⟩ := hx
      exact ⟨i, h0, by omega, h2, best_ne C n m (bg ++ [i]) (by simp) (by rw [List.length_append, List.length_singleton]; omega)⟩
    · exfalso
      have := left_out' n bg (fun i h0 h1 => Classical.byContradiction fun hc => hx ⟨i, h0, h1, hc⟩)
      omega
def Vals7 (n : Nat) (o : List Int) : Prop := o.length ≤ n ∧ ∀ x ∈ o, 0 ≤ x ∧ x < (n : Int)
theorem loop_ok (C : List Int → Int) (n : Nat) (g : List Int → List Int) (bg : List Int) (hg : ∀ i : Int, 0 ≤ i → i < (n : Int) → Vals7 n (g (bg ++ [i]))) : ∀ (j : Nat) (k : Int) (acc : List Int), 0 ≤ k → k + j = (n : Int) → Vals7 n acc → Vals7 n (loopF C g bg j k acc)
  | 0, k, acc, _, _, h => h
  | j + 1, k, acc, h0, hj, h => by
    simp only [loopF]
    refine loop_ok C n g bg hg j (k + 1) _ (by omega) (by omega) ?_
    split
    · exact h
    · rcases comb_or C acc (g (bg ++ [k])) with e | e
      · rw [e]; exact h
      · rw [e]; exact hg k h0 (by omega)
theorem best_ok (C : List Int → Int) (n : Nat) : ∀ (m : Nat) (bg : List Int), bg.length + m = n → (∀ x ∈ bg, 0 ≤ x ∧ x < (n : Int)) → Vals7 n (bestF C n m bg)
  | 0, bg, hm, h => ⟨by show bg.length ≤ n; omega, h⟩
  | m + 1, bg, hm, h => by
    simp only [bestF]
    refine loop_ok C n _ bg (fun i h0 h1 => best_ok C n m (bg ++ [i]) (by rw [List.length_append, List.length_singleton]; omega) (fun x hx => ?_)) n 0 [] (by omega) (by omega) ⟨by simp, by simp⟩
    rcases List.mem_append.1 hx with hx | hx
    · exact h x hx
    · rw [List.mem_singleton.1 hx]; exact ⟨h0, h1⟩
def CostIs (L : List S26) (C : List Int → Int) : Prop := ∀ o, Vals7 L.length o → Ev (fun k => spec_l11Cost.f k L o) (C o) ∧ Ev (fun k => impl_tourCost.f k L o) (C o)
theorem cost_is (L : List S26) (hg : ∀ s ∈ L, impl_GoodStops.p s = true) (hL : L.length ≤ 7) : ∃ C, CostIs L C := by
  refine ⟨fun o => Classical.epsilon fun c => Ev (fun k => spec_l11Cost.f k L o) c ∧ Ev (fun k => impl_tourCost.f k L o) c, fun o ho => ?_⟩
  exact Classical.epsilon_spec (costs L hg o ho.2 (by have := ho.1; omega))
theorem best_loop (L : List S26) (hL : L.length ≤ 7) (C : List Int → Int) (hC : CostIs L C) (bg : List Int) (hb : bg.length ≤ 7) (g : List Int → List Int) (hg : ∀ i : Int, 0 ≤ i → i < (L.length : Int) → g (bg ++ [i]) ≠ [] ∧ Vals7 L.length (g (bg ++ [i])) ∧ Ev (fun k => spec_l11Best.f k L (bg ++ [i])) (g (bg ++ [i]))) : ∀ (j : Nat) (x : Nat) (acc : List Int), x + j = L.length → Vals7 L.length acc → Ev (fun k => spec_l11Best.l0 k L bg acc (L.length : Int) (x : Int)) (loopF C g bg j (x : Int) acc)
  | 0, x, acc, hx, _ => by
    simp only [loopF]
    exact Ev.round (fun k => by simp only [spec_l11Best.l0]; rw [if_neg (by omega)]) (Ev.now _)
  | j + 1, x, acc, hx, ha => by
    have hw : wrap64 ((x : Int) + 1) = ((x + 1 : Nat) : Int) := by unfold wrap64; omega
    have hx1 : ((x : Int) + 1) = ((x + 1 : Nat) : Int) := by omega
    refine Ev.round (fun k => by simp only [spec_l11Best.l0]; rw [if_pos (by omega), hw]) ?_
    simp only [loopF]
    rw [hx1]
    refine Ev.bind (ev_l1Has bg (x : Int) (by omega)) ?_
    by_cases c : (x : Int) ∈ bg
    · rw [if_pos c]
      exact Ev.ite_pos (decide_eq_true c) (best_loop L hL C hC bg hb g hg j (x + 1) acc (by omega) ha)
    · rw [if_neg c]
      obtain ⟨hne, hv, hev⟩ := hg x (by omega) (by omega)
      refine Ev.ite_neg (fun z => c (of_decide_eq_true z)) (Ev.bindc rfl (Ev.ite_pos (by simp; omega) (Ev.bindc rfl (Ev.ite_pos (by simp; omega) ?_))))
      refine Ev.bind (a := g (bg ++ [(x : Int)])) (by simpa using hev) ?_
      by_cases e : acc = []
      · subst e
        rw [comb_nil]
        exact Ev.ite_pos rfl (best_loop L hL C hC bg hb g hg j (x + 1) _ (by omega) hv)
      · have hl : ¬ (acc.length : Int) = 0 := by
          intro h
          exact e (List.length_eq_zero_iff.1 (by omega))
        refine Ev.ite_neg hl (Ev.bind (hC _ hv).1 (Ev.bind (hC _ ha).1 ?_))
        unfold combC
        rw [if_neg e, if_neg hne]
        by_cases d : C (g (bg ++ [(x : Int)])) < C acc
        · rw [if_pos d]
          exact Ev.ite_pos d (best_loop L hL C hC bg hb g hg j (x + 1) _ (by omega) hv)
        · rw [if_neg d]
          exact Ev.ite_neg d (best_loop L hL C hC bg hb g hg j (x + 1) _ (by omega) ha)
theorem ev_best (L : List S26) (hL : L.length ≤ 7) (C : List Int → Int) (hC : CostIs L C) : ∀ (m : Nat) (bg : List Int), bg ≠ [] → bg.length + m = L.length → (∀ x ∈ bg, 0 ≤ x ∧ x < (L.length : Int)) → Ev (fun k => spec_l11Best.f k L bg) (bestF C L.length m bg)
  | 0, bg, _, hm, _ => by
    refine Ev.round (fun k => by simp only [spec_l11Best.f]; rw [if_pos (by omega)]) ?_
    exact Ev.bindc rfl (Ev.ite_pos (by simp; omega) (Ev.cast (Ev.now _) (by simp [bestF])))
  | m + 1, bg, hne, hm, hv => by
    refine Ev.round (fun k => by simp only [spec_l11Best.f]; rw [if_neg (by omega)]) ?_
    have hin : ∀ i : Int, 0 ≤ i → i < (L.length : Int) → ∀ x ∈ bg ++ [i], 0 ≤ x ∧ x < (L.length : Int) := fun i h0 h1 x hx => by
      rcases List.mem_append.1 hx with hx | hx
      · exact hv x hx
      · rw [List.mem_singleton.1 hx]; exact ⟨h0, h1⟩
    have hlen : ∀ i : Int, (bg ++ [i]).length + m = L.length := fun i => by rw [List.length_append, List.length_singleton]; omega
    exact best_loop L hL C hC bg (by omega) (bestF C L.length m) (fun i h0 h1 => ⟨best_ne C L.length m _ (by simp) (hlen i), best_ok C L.length m _ (hlen i) (hin i h0 h1), ev_best L hL C hC m (bg ++ [i]) (by simp) (hlen i) (hin i h0 h1)⟩) L.length 0 [] (by omega) ⟨by simp, by simp⟩
def Held (C : List Int → Int) (b : List Int) (c : Int) : Prop := b ≠ [] → c = C b
theorem visit_loop (L : List S26) (hL : L.length ≤ 7) (C : List Int → Int) (bg : List Int) (hb : bg.length ≤ 7) (m : Nat) (g : List Int → List Int) (hg : ∀ i : Int, 0 ≤ i → i < (L.length : Int) → ∀ b c, Held C b c → Vals7 L.length b → ∃ c', Ev (fun k => impl_BestTour.visit k L m (bg ++ [i]) b c) (combC C b (g (bg ++ [i])), c') ∧ Held C (combC C b (g (bg ++ [i]))) c' ∧ Vals7 L.length (combC C b (g (bg ++ [i])))) : ∀ (j : Nat) (x : Nat) (b : List Int) (c : Int), x + j = L.length → Held C b c → Vals7 L.length b → ∃ c', Ev (fun k => impl_BestTour.loop (impl_BestTour.visit k L m) k bg j (x : Int) b c) (loopF C g bg j (x : Int) b, c') ∧ Held C (loopF C g bg j (x : Int) b) c' ∧ Vals7 L.length (loopF C g bg j (x : Int) b)
  | 0, x, b, c, _, h, hv => by
    simp only [loopF]
    exact ⟨c, Ev.eqv (fun k => by simp only [impl_BestTour.loop]) (Ev.now _), h, hv⟩
  | j + 1, x, b, c, hx, h, hv => by
    have hx1 : ((x : Int) + 1) = ((x + 1 : Nat) : Int) := by omega
    simp only [loopF]
    rw [hx1]
    by_cases e : (x : Int) ∈ bg
    · obtain ⟨c', h1, h2, h3⟩ := visit_loop L hL C bg hb m g hg j (x + 1) b c (by omega) h hv
      rw [if_pos e]
      refine ⟨c', Ev.eqv (fun k => by simp only [impl_BestTour.loop]; rw [hx1]) (Ev.bind (ev_Contains bg (x : Int) (by omega)) (Ev.ite_pos (decide_eq_true e) h1)), h2, h3⟩
    · obtain ⟨c1, g1, g2, g3⟩ := hg x (by omega) (by omega) b c h hv
      obtain ⟨c', h1, h2, h3⟩ := visit_loop L hL C bg hb m g hg j (x + 1) (combC C b (g (bg ++ [(x : Int)]))) c1 (by omega) g2 g3
      rw [if_neg e]
      refine ⟨c', Ev.eqv (fun k => by simp only [impl_BestTour.loop]; rw [hx1]) (Ev.bind (ev_Contains bg (x : Int) (by omega)) (Ev.ite_neg (fun z => e (of_decide_eq_true z)) (Ev.bind g1 h1))), h2, h3⟩
theorem ev_visit (L : List S26) (hL : L.length ≤ 7) (C : List Int → Int) (hC : CostIs L C) : ∀ (m : Nat) (bg : List Int), bg ≠ [] → bg.length + m = L.length → (∀ x ∈ bg, 0 ≤ x ∧ x < (L.length : Int)) → ∀ (b : List Int) (c : Int), Held C b c → Vals7 L.length b → ∃ c', Ev (fun k => impl_BestTour.visit k L m bg b c) (combC C b (bestF C L.length m bg), c') ∧ Held C (combC C b (bestF C L.length m bg)) c' ∧ Vals7 L.length (combC C b (bestF C L.length m bg))
  | 0, bg, hne, hm, hv, b, c, h, hb => by
    have hvb : Vals7 L.length bg := ⟨by omega, hv⟩
    have hcl : slices_Clone_int_int.f bg = some bg := by unfold slices_Clone_int_int.f; rw [if_pos (by omega)]
    simp only [bestF]
    by_cases e : b = [] ∨ C bg < c
    · have hcb : combC C b bg = bg := by
        unfold combC
        rcases e with e | e
        · rw [if_pos e]
        · by_cases e2 : b = []
          · rw [if_pos e2]
          · rw [if_neg e2, if_neg hne, if_pos (by rw [← h e2]; exact e)]
      refine ⟨C bg, ?_, ?_, ?_⟩
      · rw [hcb]
        show Ev (fun k => (impl_tourCost.f k L bg).bind fun t => if b = [] ∨ t < c then (slices_Clone_int_int.f bg).bind fun v => some (v, t) else some (b, c)) _
        refine Ev.bind (hC bg hvb).2 ?_
        exact Ev.ite_pos e (Ev.bindc hcl (Ev.now _))
      · rw [hcb]; exact fun _ => rfl
      · rw [hcb]; exact hvb
    · have e1 : ¬ b = [] := fun z => e (Or.inl z)
      have hcb : combC C b bg = b := by
        unfold combC
        rw [if_neg e1, if_neg hne, if_neg (by rw [← h e1]; exact fun z => e (Or.inr z))]
      refine ⟨c, ?_, ?_, ?_⟩
      · rw [hcb]
        show Ev (fun k => (impl_tourCost.f k L bg).bind fun t => if b = [] ∨ t < c then (slices_Clone_int_int.f bg).bind fun v => some (v, t) else some (b, c)) _
        refine Ev.bind (hC bg hvb).2 ?_
        exact Ev.ite_neg e (Ev.now _)
      · rw [hcb]; exact h
      · rw [hcb]; exact hb
  | m + 1, bg, hne, hm, hv, b, c, h, hb => by
    have hin : ∀ i : Int, 0 ≤ i → i < (L.length : Int) → ∀ x ∈ bg ++ [i], 0 ≤ x ∧ x < (L.length : Int) := fun i h0 h1 x hx => by
      rcases List.mem_append.1 hx with hx | hx
      · exact hv x hx
      · rw [List.mem_singleton.1 hx]; exact ⟨h0, h1⟩
    have hlen : ∀ i : Int, (bg ++ [i]).length + m = L.length := fun i => by rw [List.length_append, List.length_singleton]; omega
    obtain ⟨c', h1, h2, h3⟩ := visit_loop L hL C bg (by omega) m (bestF C L.length m) (fun i h0 h1 b c hb hc => ev_visit L hL C hC m (bg ++ [i]) (by simp) (hlen i) (hin i h0 h1) b c hb hc) L.length 0 b c (by omega) h hb
    simp only [bestF]
    rw [← loop_comb]
    exact ⟨c', Ev.eqv (fun k => by simp only [impl_BestTour.visit]; rfl) h1, h2, h3⟩
end Go.Proofs.Ytcbjfnkeieeecaa.Pure
