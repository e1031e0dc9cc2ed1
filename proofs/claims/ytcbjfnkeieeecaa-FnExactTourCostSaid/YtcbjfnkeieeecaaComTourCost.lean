import Derived.Test.YtcbjfnkeieeecaaGLTourCost0
import Derived.Test.YtcbjfnkeieeecaaGLTourCost1
import Derived.Test.YtcbjfnkeieeecaaGLTourCost2
import Derived.Test.YtcbjfnkeieeecaaGLTourCost3
import Derived.Test.YtcbjfnkeieeecaaGLTourCost4
namespace Go.Proofs.Ytcbjfnkeieeecaa.Pure
open Go.RowKit Go.Proofs.Ytcbjfnkeieeecaa.GLTourCost Go.Proofs.YtcbjfnkeieeecaaW.PrintWords Go.Proofs.YtcbjfnkeieeecaaW.PrintLast Go.Proofs.YtcbjfnkeieeecaaW.PrintMore Go.Proofs.YtcbjfnkeieeecaaW.PrintOwn
set_option linter.unusedVariables false
set_option linter.unusedSimpArgs false
/-! rounds: what a loop over a list answers -/
theorem Ev.det {α : Type} {g : Nat → Option α} {r : α} (h : ∀ k, g k = some r) : Ev g r := ⟨0, fun k _ => h k⟩
theorem Ev.bind' {α β : Type} {g : Nat → Option α} {f : Nat → α → Option β} {a : α} {r : β} (h : Ev g a) (k : Ev (fun n => f n a) r) : Ev (fun n => (g n).bind (f n)) r := Ev.bind h k
theorem Ev.bindc {α β : Type} {g : Option α} {f : Nat → α → Option β} {a : α} {r : β} (h : g = some a) (k : Ev (fun n => f n a) r) : Ev (fun n => g.bind (f n)) r := by
  subst h
  exact k
/-- One round. -/
theorem Ev.round {α : Type} {g f : Nat → Option α} {r : α} (h : ∀ k, g (k + 1) = f k) (k : Ev f r) : Ev g r := Ev.step h k
theorem Ev.eqv {α : Type} {g f : Nat → Option α} {r : α} (h : ∀ k, g k = f k) (k : Ev f r) : Ev g r := Ev.congr h k
theorem Ev.cast {α : Type} {g : Nat → Option α} {r r' : α} (h : Ev g r) (e : r = r') : Ev g r' := e ▸ h
theorem Ev.ite_pos {α : Type} {c : Prop} [Decidable c] {g f : Nat → Option α} {r : α} (hc : c) (k : Ev g r) : Ev (fun n => if c then g n else f n) r := by
  refine Ev.eqv (fun n => ?_) k
  rw [if_pos hc]
theorem Ev.ite_neg {α : Type} {c : Prop} [Decidable c] {g f : Nat → Option α} {r : α} (hc : ¬ c) (k : Ev f r) : Ev (fun n => if c then g n else f n) r := by
  refine Ev.eqv (fun n => ?_) k
  rw [if_neg hc]
theorem getD_mid {α : Type} (d : α) (pre suf : List α) (x : α) : (pre ++ x :: suf).getD (pre.length : Int).toNat d = x := by
  rw [Int.toNat_natCast, List.getD_eq_getElem?_getD, List.getElem?_append_right (Nat.le_refl _), Nat.sub_self]
  rfl
theorem rd_mid (pre suf : List Int) (x : Int) : rd (pre ++ x :: suf) (pre.length : Int) = x := getD_mid 0 pre suf x
theorem rdOf_mid {α : Type} (d : α) (pre suf : List α) (x : α) : rdOf d (pre ++ x :: suf) (pre.length : Int) = x := getD_mid d pre suf x
theorem lt_mid {α : Type} (pre suf : List α) (x : α) : (pre.length : Int) < ((pre ++ x :: suf).length : Int) := by
  rw [List.length_append, List.length_cons]; omega
theorem up_mid {α : Type} (pre suf : List α) (x : α) (h : (pre ++ x :: suf).length ≤ 9223372036854775807) : wrap64 ((pre.length : Int) + 1) = ((pre ++ [x]).length : Int) := by
  rw [List.length_append, List.length_cons] at h
  rw [List.length_append, List.length_singleton]
  unfold wrap64
  omega
theorem snoc_mid {α : Type} (pre suf : List α) (x : α) : pre ++ x :: suf = (pre ++ [x]) ++ suf := by simp
theorem wfb {x : Int} (h : (Lit.int .i64 x).wf = true) : -9223372036854775808 ≤ x ∧ x ≤ 9223372036854775807 := by
  simp [Lit.wf, IntKind.min, IntKind.max, IntKind.bits, IntKind.signed] at h
  omega
theorem all_wfb {l : List Int} (h : ∀ x ∈ l, (Lit.int .i64 x).wf = true) : ∀ x ∈ l, -9223372036854775808 ≤ x ∧ x ≤ 9223372036854775807 := fun x hx => wfb (h x hx)
theorem wrap_id {x : Int} (h0 : -9223372036854775808 ≤ x) (h1 : x ≤ 9223372036854775807) : wrap64 x = x := by unfold wrap64; omega

/-! slices of ints -/
/-- All numbers lie between two. -/
def allIn (l : List Int) (lo hi : Int) : Bool := l.all fun n => decide (lo ≤ n) && decide (n ≤ hi)
theorem allIn_iff {l : List Int} {lo hi : Int} : allIn l lo hi = true ↔ ∀ x ∈ l, lo ≤ x ∧ x ≤ hi := by
  unfold allIn
  rw [List.all_eq_true]
  simp
/-- Where a number first stands, -1 if nowhere. -/
def idxI (l : List Int) (n : Int) : Int := match l.findIdx? (fun x => x == n) with
  | some i => (i : Int)
  | none => -1
theorem idxI_nil (n : Int) : idxI [] n = -1 := rfl
theorem idxI_cons (x : Int) (l : List Int) (n : Int) : idxI (x :: l) n = if x = n then 0 else if idxI l n = -1 then -1 else idxI l n + 1 := by
  unfold idxI
  rw [List.findIdx?_cons]
  by_cases c : x = n
  · simp [c]
  · simp only [beq_iff_eq, c, if_false]
    cases h : l.findIdx? fun x => x == n with
    | none => simp
    | some i =>
      have : ¬ ((i : Int) = -1) := by omega
      simp [this]
theorem idxI_ge (l : List Int) (n : Int) : -1 ≤ idxI l n := by
  unfold idxI
  split <;> omega
theorem idxI_mem (l : List Int) (n : Int) : decide (idxI l n ≥ 0) = decide (n ∈ l) := by
  induction l with
  | nil => rfl
  | cons x l ih =>
    rw [idxI_cons]
    have hg := idxI_ge l n
    by_cases c : x = n
    · simp [c]
    · rw [if_neg c]
      rw [decide_eq_decide] at ih ⊢
      rw [List.mem_cons]
      split
      · have : ¬ n ∈ l := fun h => by have := ih.2 h; omega
        simp [Ne.symm c, this]
      · have : n ∈ l := ih.1 (by omega)
        simp [this]
        omega
/-- The sum, as Go's ints tell it. -/
def sumFrom (s : Int) : List Int → Int
  | [] => s
  | x :: l => sumFrom (wrap64 (s + x)) l

theorem ev_toIntS_l (l : List Int) (hn : l.length ≤ 35184372088832) : ∀ (suf pre : List Int), l = pre ++ suf → ∀ (z : List Int), z.length = suf.length → Ev (fun k => laws_toIntS.l0 k l (pre ++ z) (pre.length : Int)) l
  | [], pre, e, z, hz => by
    subst e
    have : z = [] := List.length_eq_zero_iff.1 hz
    subst this
    refine Ev.round (f := fun _ => some (pre ++ [])) (fun k => ?_) (Ev.now _)
    simp only [laws_toIntS.l0]
    rw [if_neg (by simp)]
  | x :: suf, pre, e, [], hz => by simp at hz
  | x :: suf, pre, e, y :: z, hz => by
    subst e
    have ih := ev_toIntS_l (pre ++ x :: suf) hn suf (pre ++ [x]) (snoc_mid _ _ _) z (by simpa using hz)
    refine Ev.round (fun k => ?_) ih
    simp only [laws_toIntS.l0]
    rw [if_pos (lt_mid _ _ _), if_pos (by omega), if_pos (lt_mid _ _ _), rd_mid, up_mid pre suf x (by omega)]
    congr 1
    rw [Int.toNat_natCast, List.set_append_right _ _ (Nat.le_refl _), Nat.sub_self, List.set_cons_zero]
    simp
theorem ev_toIntS (l : List Int) (hn : l.length ≤ 35184372088832) : Ev (fun k => laws_toIntS.f k l) l := by
  have h := ev_toIntS_l l hn l [] rfl (List.replicate l.length 0) (by simp)
  refine Ev.eqv (fun k => ?_) h
  unfold laws_toIntS.f
  rw [if_pos (by omega), Int.toNat_natCast, if_pos hn]
  rfl

theorem ev_eqIntS_l (a b : List Int) (hab : a.length = b.length) (hn : a.length ≤ 9223372036854775807) : ∀ (sa pa sb pb : List Int), a = pa ++ sa → b = pb ++ sb → pa.length = pb.length → Ev (fun k => laws_eqIntS.l0 k a b (pa.length : Int)) (decide (sa = sb))
  | [], pa, sb, pb, ea, eb, hp => by
    subst ea
    refine Ev.round (f := fun _ => some true) (fun k => ?_) (Ev.cast (Ev.now _) ?_)
    · simp only [laws_eqIntS.l0]
      rw [if_neg (by simp)]
    · have : sb = [] := by
        rw [eb] at hab
        simp at hab
        exact List.length_eq_zero_iff.1 (by omega)
      rw [this]; rfl
  | x :: sa, pa, [], pb, ea, eb, hp => by
    rw [ea, eb] at hab
    simp at hab
    omega
  | x :: sa, pa, y :: sb, pb, ea, eb, hp => by
    subst ea
    subst eb
    have h1 : ((pa.length : Nat) : Int) = (pb.length : Int) := by omega
    by_cases e : x = y
    · subst e
      have ih := ev_eqIntS_l (pa ++ x :: sa) (pb ++ x :: sb) hab hn sa (pa ++ [x]) sb (pb ++ [x]) (snoc_mid _ _ _) (snoc_mid _ _ _) (by simp [hp])
      refine Ev.round (fun k => ?_) (Ev.cast ih (by simp))
      simp only [laws_eqIntS.l0]
      rw [if_pos (lt_mid _ _ _), if_pos (by omega), if_pos (by rw [h1]; exact lt_mid _ _ _), rd_mid, h1, rd_mid, if_pos rfl, ← h1, up_mid _ _ _ hn]
    · refine Ev.round (f := fun _ => some false) (fun k => ?_) (Ev.cast (Ev.now _) (by simp [e]))
      simp only [laws_eqIntS.l0]
      rw [if_pos (lt_mid _ _ _), if_pos (by omega), if_pos (by rw [h1]; exact lt_mid _ _ _), rd_mid, h1, rd_mid, if_neg e]
theorem ev_eqIntS (a b : List Int) (hn : a.length ≤ 9223372036854775807) : Ev (fun k => laws_eqIntS.f k a b) (decide (a = b)) := by
  unfold laws_eqIntS.f
  by_cases h : a.length = b.length
  · exact Ev.ite_pos (by omega) (ev_eqIntS_l a b h hn a [] b [] rfl rfl rfl)
  · refine Ev.ite_neg (by omega) (Ev.cast (Ev.now _) ?_)
    rw [decide_eq_false]
    rintro rfl
    exact h rfl

theorem in_eq (a lo hi : Int) : spec_l1In.f a lo hi = some (decide (lo ≤ a) && decide (a ≤ hi)) := by
  unfold spec_l1In.f
  by_cases h : a ≥ lo
  · rw [if_pos h]; simp [h]
  · rw [if_neg h]; simp [h]

theorem within_eq (a lo hi : Int) : impl_within.f a lo hi = some (decide (lo ≤ a) && decide (a ≤ hi)) := by
  unfold impl_within.f
  by_cases h : a ≥ lo
  · rw [if_pos h]; simp [h]
  · rw [if_neg h]; simp [h]

theorem ev_l1Has_l (l : List Int) (n : Int) (hn : l.length ≤ 9223372036854775807) : ∀ (suf pre : List Int), l = pre ++ suf → Ev (fun k => spec_l1Has.l0 k n l (l.length : Int) (pre.length : Int)) (decide (n ∈ suf))
  | [], pre, e => by
    subst e
    refine Ev.round (f := fun _ => some false) (fun k => ?_) (Ev.cast (Ev.now _) (by simp))
    simp only [spec_l1Has.l0]
    rw [if_neg (by simp)]
  | x :: suf, pre, e => by
    subst e
    by_cases c : x = n
    · refine Ev.round (f := fun _ => some true) (fun k => ?_) (Ev.cast (Ev.now _) (by simp [c]))
      simp only [spec_l1Has.l0]
      rw [if_pos (lt_mid _ _ _), if_pos (by omega), if_pos (lt_mid _ _ _), rd_mid, if_pos c]
    · have ih := ev_l1Has_l (pre ++ x :: suf) n hn suf (pre ++ [x]) (snoc_mid _ _ _)
      refine Ev.round (fun k => ?_) (Ev.cast ih (by simp [Ne.symm c]))
      simp only [spec_l1Has.l0]
      rw [if_pos (lt_mid _ _ _), if_pos (by omega), if_pos (lt_mid _ _ _), rd_mid, if_neg c, up_mid _ _ _ hn]
theorem ev_l1Has (l : List Int) (n : Int) (hn : l.length ≤ 9223372036854775807) : Ev (fun k => spec_l1Has.f k l n) (decide (n ∈ l)) := ev_l1Has_l l n hn l [] rfl

/-! marks in slices of ints -/

/-! the way between two spots (ahead of ways.lean) -/
/-- The way between two spots. -/
def wayZ (a b c d : Int) : Int := if a = c then (if b < d then d - b else b - d) else 3 * (if a < c then c - a else a - c) + (if 40 - (b + d) < b + d then 40 - (b + d) else b + d)
theorem way_spec {a b c d : Int} (h : 0 ≤ a ∧ a ≤ 9 ∧ 0 ≤ b ∧ b ≤ 20) (k : 0 ≤ c ∧ c ≤ 9 ∧ 0 ≤ d ∧ d ≤ 20) : spec_l11Way.f a b c d = some (wayZ a b c d) := by
  have w1 : wrap64 (b - d) = b - d := by unfold wrap64; omega
  have w2 : wrap64 (b + d) = b + d := by unfold wrap64; omega
  have w3 : wrap64 (40 - (b + d)) = 40 - (b + d) := by unfold wrap64; omega
  have w4 : wrap64 (a - c) = a - c := by unfold wrap64; omega
  have w5 : wrap64 (-(a - c)) = c - a := by unfold wrap64; omega
  have w6 : wrap64 (-(b - d)) = d - b := by unfold wrap64; omega
  have w7 : wrap64 (3 * (a - c)) = 3 * (a - c) := by unfold wrap64; omega
  have w8 : wrap64 (3 * (c - a)) = 3 * (c - a) := by unfold wrap64; omega
  have w9 : wrap64 (3 * (a - c) + (b + d)) = 3 * (a - c) + (b + d) := by unfold wrap64; omega
  have w10 : wrap64 (3 * (c - a) + (b + d)) = 3 * (c - a) + (b + d) := by unfold wrap64; omega
  have w11 : wrap64 (3 * (a - c) + (40 - (b + d))) = 3 * (a - c) + (40 - (b + d)) := by unfold wrap64; omega
  have w12 : wrap64 (3 * (c - a) + (40 - (b + d))) = 3 * (c - a) + (40 - (b + d)) := by unfold wrap64; omega
  unfold spec_l11Way.f wayZ spec_l1Abs.f
  simp only [w1, w2, w3, w4]
  by_cases e : a = c
  · rw [if_pos e, if_pos e]
    by_cases l : b - d < 0
    · rw [if_pos l, if_pos (by omega)]; simp [w6]
    · rw [if_neg l, if_neg (by omega)]; simp
  · rw [if_neg e, if_neg e]
    by_cases m : 40 - (b + d) < b + d
    · rw [if_pos m, if_pos m]
      by_cases l : a - c < 0
      · rw [if_pos l, if_pos (by omega)]; simp [w5, w8, w12]
      · rw [if_neg l, if_neg (by omega)]; simp [w7, w11]
    · rw [if_neg m, if_neg m]
      by_cases l : a - c < 0
      · rw [if_pos l, if_pos (by omega)]; simp [w5, w8, w10]
      · rw [if_neg l, if_neg (by omega)]; simp [w7, w9]
theorem way_impl {a b c d : Int} (h : 0 ≤ a ∧ a ≤ 9 ∧ 0 ≤ b ∧ b ≤ 20) (k : 0 ≤ c ∧ c ≤ 9 ∧ 0 ≤ d ∧ d ≤ 20) : impl_way.f a b c d = some (wayZ a b c d) := by
  have w1 : wrap64 (b - d) = b - d := by unfold wrap64; omega
  have w1' : wrap64 (d - b) = d - b := by unfold wrap64; omega
  have w2 : wrap64 (b + d) = b + d := by unfold wrap64; omega
  have w3 : wrap64 (40 - (b + d)) = 40 - (b + d) := by unfold wrap64; omega
  have w4 : wrap64 (a - c) = a - c := by unfold wrap64; omega
  have w4' : wrap64 (c - a) = c - a := by unfold wrap64; omega
  unfold impl_way.f wayZ
  simp only [w1, w1', w2, w3, w4, w4']
  by_cases e : a = c
  · rw [if_pos e, if_pos e]
    congr 1
    unfold mx
    split <;> split <;> omega
  · rw [if_neg e, if_neg e]
    congr 1
    have hm : mx (a - c) (c - a) = if a < c then c - a else a - c := by unfold mx; split <;> split <;> omega
    have hn : mn (b + d) (40 - (b + d)) = if 40 - (b + d) < b + d then 40 - (b + d) else b + d := by unfold mn; split <;> rfl
    rw [hm, hn]
    have w7 : wrap64 (3 * (if a < c then c - a else a - c)) = 3 * (if a < c then c - a else a - c) := by unfold wrap64; split <;> omega
    rw [w7]
    unfold wrap64
    split <;> split <;> omega

/-! lists of spots -/

theorem ev_toSpotS_l (l : List S23) (hn : l.length ≤ 17592186044416) : ∀ (suf pre : List S23), l = pre ++ suf → ∀ (z : List S26), z.length = suf.length → Ev (fun k => laws_toSpotS.l0 k l (pre.map (fun s => ⟨s.f0, s.f1⟩) ++ z) (pre.length : Int)) (l.map fun s => (⟨s.f0, s.f1⟩ : S26))
  | [], pre, e, z, hz => by
    subst e
    have : z = [] := List.length_eq_zero_iff.1 hz
    subst this
    refine Ev.round (f := fun _ => some _) (fun k => ?_) (Ev.now _)
    simp only [laws_toSpotS.l0]
    rw [if_neg (by simp)]
    simp
  | x :: suf, pre, e, [], hz => by simp at hz
  | x :: suf, pre, e, y :: z, hz => by
    subst e
    have ih := ev_toSpotS_l (pre ++ x :: suf) hn suf (pre ++ [x]) (snoc_mid _ _ _) z (by simpa using hz)
    refine Ev.round (fun k => ?_) ih
    simp only [laws_toSpotS.l0]
    have hr : rd_T23 (pre ++ x :: suf) (pre.length : Int) = x := getD_mid _ pre suf x
    rw [if_pos (lt_mid _ _ _), if_pos (by omega), hr]
    simp only [laws_toSpot.f, Option.bind_some]
    rw [if_pos (by simp; omega), up_mid pre suf x (by omega)]
    congr 1
    rw [Int.toNat_natCast, List.set_append_right _ _ (by simp)]
    simp
theorem ev_toSpotS (l : List S23) (hn : l.length ≤ 17592186044416) : Ev (fun k => laws_toSpotS.f k l) (l.map fun s => (⟨s.f0, s.f1⟩ : S26)) := by
  have h := ev_toSpotS_l l hn l [] rfl (List.replicate l.length z26) (by simp)
  refine Ev.eqv (fun k => ?_) h
  unfold laws_toSpotS.f
  rw [if_pos (by omega), Int.toNat_natCast, if_pos hn]
  rfl

theorem eqSpot_eq (a b c d : Int) : laws_eqSpot.f a b c d = some (decide (a = c) && decide (b = d)) := by
  unfold laws_eqSpot.f
  by_cases e : a = c
  · by_cases e' : b = d
    · simp [e, e']
    · simp [e, e']
  · simp [e]
theorem ev_eqSpotS_l (l : List S26) (hn : l.length ≤ 9223372036854775807) : ∀ (suf pre : List S26), l = pre ++ suf → Ev (fun k => laws_eqSpotS.l0 k l l (pre.length : Int)) true
  | [], pre, e => by
    subst e
    refine Ev.round (f := fun _ => some true) (fun k => ?_) (Ev.now _)
    simp only [laws_eqSpotS.l0]
    rw [if_neg (by simp)]
  | x :: suf, pre, e => by
    subst e
    have ih := ev_eqSpotS_l (pre ++ x :: suf) hn suf (pre ++ [x]) (snoc_mid _ _ _)
    refine Ev.round (fun k => ?_) ih
    simp only [laws_eqSpotS.l0]
    have hr : rd_T26 (pre ++ x :: suf) (pre.length : Int) = x := getD_mid _ pre suf x
    rw [if_pos (lt_mid _ _ _), if_pos (by omega), if_pos (lt_mid _ _ _), hr, eqSpot_eq]
    simp only [Option.bind_some, decide_true, Bool.and_self, if_true]
    rw [up_mid _ _ _ hn]
theorem ev_eqSpotS (l : List S26) (hn : l.length ≤ 9223372036854775807) : Ev (fun k => laws_eqSpotS.f k l l) true := by
  unfold laws_eqSpotS.f
  exact Ev.ite_pos rfl (ev_eqSpotS_l l hn l [] rfl)

theorem spot_spec (a b : Int) : spec_l11Spot.f a b = some (impl_GoodStops.p ⟨a, b⟩) := by
  unfold spec_l11Spot.f impl_GoodStops.p
  rw [in_eq]; simp only [Option.bind_some]
  cases (decide (0 ≤ a) && decide (a ≤ 9))
  · simp
  · simp [in_eq]
def goodStops (l : List S26) : Bool := (decide (1 ≤ (l.length : Int)) && decide ((l.length : Int) ≤ 7)) && l.all impl_GoodStops.p
theorem ev_GoodStops_l (l : List S26) (hn : l.length ≤ 9223372036854775807) : ∀ (suf pre : List S26), l = pre ++ suf → Ev (fun k => spec_GoodStops.l0 k l l (l.length : Int) (pre.length : Int)) ((decide (1 ≤ (l.length : Int)) && decide ((l.length : Int) ≤ 7)) && suf.all impl_GoodStops.p)
  | [], pre, e => by
    refine Ev.round (f := fun _ => some (decide (1 ≤ (l.length : Int)) && decide ((l.length : Int) ≤ 7))) (fun k => ?_) (Ev.cast (Ev.now _) (by simp))
    simp only [spec_GoodStops.l0]
    rw [if_neg (by subst e; simp), in_eq]
    rfl
  | x :: suf, pre, e => by
    subst e
    have hr : rd_T26 (pre ++ x :: suf) (pre.length : Int) = x := getD_mid _ pre suf x
    cases c : impl_GoodStops.p x with
    | true =>
      have ih := ev_GoodStops_l (pre ++ x :: suf) hn suf (pre ++ [x]) (snoc_mid _ _ _)
      refine Ev.round (fun k => ?_) (Ev.cast ih (by rw [List.all_cons, c, Bool.true_and]))
      simp only [spec_GoodStops.l0]
      rw [if_pos (lt_mid _ _ _), if_pos (by omega), if_pos (lt_mid _ _ _), hr, spot_spec, Option.bind_some, if_pos c, up_mid _ _ _ hn]
    | false =>
      refine Ev.round (f := fun _ => some false) (fun k => ?_) (Ev.cast (Ev.now _) (by rw [List.all_cons, c, Bool.false_and, Bool.and_false]))
      simp only [spec_GoodStops.l0]
      have c' : ¬ impl_GoodStops.p (⟨x.f0, x.f1⟩ : S26) = true := by show ¬ impl_GoodStops.p x = true; rw [c]; decide
      rw [if_pos (lt_mid _ _ _), if_pos (by omega), if_pos (lt_mid _ _ _), hr, spot_spec, Option.bind_some, if_neg c']
theorem ev_GoodStops (l : List S26) (hn : l.length ≤ 9223372036854775807) : Ev (fun k => spec_GoodStops.f k l) (goodStops l) := ev_GoodStops_l l hn l [] rfl
theorem implGoodStops (l : List S26) : impl_GoodStops.f l = some (goodStops l) := rfl

/-! the way between two stops by their numbers -/

/-- The way between two stops by their numbers. -/
def wy (L : List S26) (i k : Int) : Int := wayZ (rd_T26 L i).f0 (rd_T26 L i).f1 (rd_T26 L k).f0 (rd_T26 L k).f1
theorem stop_ok {L : List S26} (hg : ∀ s ∈ L, impl_GoodStops.p s = true) {i : Int} (h0 : 0 ≤ i) (h1 : i < (L.length : Int)) : 0 ≤ (rd_T26 L i).f0 ∧ (rd_T26 L i).f0 ≤ 9 ∧ 0 ≤ (rd_T26 L i).f1 ∧ (rd_T26 L i).f1 ≤ 20 := by
  have h := hg (rd_T26 L i) (getD_mem _ (by omega))
  unfold impl_GoodStops.p at h
  simp at h
  omega
theorem wy_spec {L : List S26} (hg : ∀ s ∈ L, impl_GoodStops.p s = true) {i k : Int} (h0 : 0 ≤ i) (h1 : i < (L.length : Int)) (k0 : 0 ≤ k) (k1 : k < (L.length : Int)) :
    spec_l11Way.f (rd_T26 L i).f0 (rd_T26 L i).f1 (rd_T26 L k).f0 (rd_T26 L k).f1 = some (wy L i k) := way_spec (stop_ok hg h0 h1) (stop_ok hg k0 k1)
theorem wy_impl {L : List S26} (hg : ∀ s ∈ L, impl_GoodStops.p s = true) {i k : Int} (h0 : 0 ≤ i) (h1 : i < (L.length : Int)) (k0 : 0 ≤ k) (k1 : k < (L.length : Int)) :
    impl_way.f (rd_T26 L i).f0 (rd_T26 L i).f1 (rd_T26 L k).f0 (rd_T26 L k).f1 = some (wy L i k) := way_impl (stop_ok hg h0 h1) (stop_ok hg k0 k1)

/-! tours: the cost of a round -/

theorem rd_mem' {l : List Int} {i : Int} (h0 : 0 ≤ i) (h1 : i < (l.length : Int)) : rd l i ∈ l := getD_mem 0 (by omega)
theorem cost_l (L : List S26) (hg : ∀ s ∈ L, impl_GoodStops.p s = true) (o : List Int) (ho : ∀ x ∈ o, 0 ≤ x ∧ x < (L.length : Int)) (hn : o.length ≤ 4611686018427387904) : ∀ (m j : Nat) (s : Int), j + m = o.length →
    ∃ c, Ev (fun k => spec_l11Cost.l0 k L o s o (o.length : Int) (j : Int)) c ∧ Ev (fun k => impl_tourCost.l0 k L o s o (o.length : Int) (j : Int)) c
  | 0, j, s, hj => by
    refine ⟨s, Ev.round (f := fun _ => some s) (fun k => ?_) (Ev.now _), Ev.round (f := fun _ => some s) (fun k => ?_) (Ev.now _)⟩
    · simp only [spec_l11Cost.l0]
      rw [if_neg (by omega)]
    · simp only [impl_tourCost.l0]
      rw [if_neg (by omega)]
  | m + 1, j, s, hj => by
    have hw : wrap64 ((j : Int) + 1) = (j : Int) + 1 := by unfold wrap64; omega
    have hn1 : ((j + 1 : Nat) : Int) = (j : Int) + 1 := by omega
    have q0 : 0 ≤ Int.tmod ((j : Int) + 1) (o.length : Int) := Int.tmod_nonneg _ (by omega)
    have q1 : Int.tmod ((j : Int) + 1) (o.length : Int) < (o.length : Int) := Int.tmod_lt_of_pos _ (by omega)
    have ha := ho _ (rd_mem' (l := o) (i := (j : Int)) (by omega) (by omega))
    have hb := ho _ (rd_mem' q0 q1)
    obtain ⟨c, h1, h2⟩ := cost_l L hg o ho hn m (j + 1) (wrap64 (s + wy L (rd o (j : Int)) (rd o (Int.tmod ((j : Int) + 1) (o.length : Int))))) (by omega)
    rw [hn1] at h1 h2
    refine ⟨c, ?_, ?_⟩
    · refine Ev.round (fun k => by simp only [spec_l11Cost.l0]; rw [if_pos (show (j : Int) < (o.length : Int) by omega), hw]) ?_
      exact Ev.ite_pos (by omega) (Ev.ite_pos (by omega) (Ev.ite_pos ha.1 (Ev.ite_pos ha.2 (Ev.ite_neg (by omega) (Ev.ite_pos q0 (Ev.ite_pos q1 (Ev.ite_pos hb.1 (Ev.ite_pos hb.2 (Ev.bindc (wy_spec hg ha.1 ha.2 hb.1 hb.2) h1)))))))))
    · refine Ev.round (fun k => by simp only [impl_tourCost.l0]; rw [if_pos (show (j : Int) < (o.length : Int) by omega), hw]) ?_
      exact Ev.ite_pos (by omega) (Ev.ite_pos (by omega) (Ev.ite_pos ha.1 (Ev.ite_pos ha.2 (Ev.ite_neg (by omega) (Ev.ite_pos q0 (Ev.ite_pos q1 (Ev.ite_pos hb.1 (Ev.ite_pos hb.2 (Ev.bindc (wy_impl hg ha.1 ha.2 hb.1 hb.2) h2)))))))))
theorem costs (L : List S26) (hg : ∀ s ∈ L, impl_GoodStops.p s = true) (o : List Int) (ho : ∀ x ∈ o, 0 ≤ x ∧ x < (L.length : Int)) (hn : o.length ≤ 4611686018427387904) : ∃ c, Ev (fun k => spec_l11Cost.f k L o) c ∧ Ev (fun k => impl_tourCost.f k L o) c := cost_l L hg o ho hn o.length 0 0 (by omega)

/-! orders: 0 up to a number less 1, each once -/

/-- The numbers lie in 0 .. m - 1, and none stands before. -/
def ordP (m : Int) : List Int → List Int → Bool
  | _, [] => true
  | pre, x :: suf => (decide (0 ≤ x) && decide (x ≤ m - 1)) && !(decide (x ∈ pre)) && ordP m (pre ++ [x]) suf
theorem ordP_iff (m : Int) : ∀ (suf pre : List Int), ordP m pre suf = true ↔ (∀ x ∈ suf, 0 ≤ x ∧ x ≤ m - 1) ∧ (∀ x ∈ suf, ¬ x ∈ pre) ∧ suf.Nodup
  | [], pre => by simp [ordP]
  | x :: suf, pre => by
    rw [ordP, Bool.and_eq_true, Bool.and_eq_true, Bool.and_eq_true, decide_eq_true_eq, decide_eq_true_eq, Bool.not_eq_true', decide_eq_false_iff_not, ordP_iff m suf (pre ++ [x]), List.nodup_cons]
    constructor
    · rintro ⟨⟨⟨h1, h2⟩, h3⟩, h4, h5, h6⟩
      refine ⟨fun y hy => ?_, fun y hy => ?_, fun hx => h5 x hx (by simp), h6⟩
      · rcases List.mem_cons.1 hy with rfl | hy
        · exact ⟨h1, h2⟩
        · exact h4 y hy
      · rcases List.mem_cons.1 hy with rfl | hy
        · exact h3
        · exact fun hp => h5 y hy (by simp [hp])
    · rintro ⟨h1, h2, h3, h4⟩
      refine ⟨⟨⟨(h1 x (by simp)).1, (h1 x (by simp)).2⟩, h2 x (by simp)⟩, fun y hy => h1 y (by simp [hy]), fun y hy hp => ?_, h4⟩
      rcases List.mem_append.1 hp with hp | hp
      · exact h2 y (by simp [hy]) hp
      · rw [List.mem_singleton] at hp
        exact h3 (hp ▸ hy)
theorem cnt_lt : ∀ (s : List Int) (a b : Int), s.Pairwise (· < ·) → (∀ x ∈ s, a ≤ x ∧ x < b) → s.length ≤ (b - a).toNat
  | [], _, _, _, _ => Nat.zero_le _
  | x :: s, a, b, hp, h => by
    rw [List.pairwise_cons] at hp
    have ih := cnt_lt s (x + 1) b hp.2 (fun y hy => ⟨by have := hp.1 y hy; omega, (h y (by simp [hy])).2⟩)
    have := h x (by simp)
    rw [List.length_cons]
    omega
theorem up_of : ∀ (s : List Int) (a : Int), s.Pairwise (· < ·) → (∀ x ∈ s, a ≤ x ∧ x < a + s.length) → upI s a = true
  | [], _, _, _ => rfl
  | x :: s, a, hp, h => by
    rw [List.pairwise_cons] at hp
    have hx := h x (by simp)
    rw [List.length_cons] at h hx
    have hc := cnt_lt s (x + 1) (a + ((s.length + 1 : Nat) : Int)) hp.2 (fun y hy => ⟨by have := hp.1 y hy; omega, (h y (by simp [hy])).2⟩)
    have e : x = a := by omega
    rw [upI, e, decide_eq_true rfl, Bool.true_and]
    refine up_of s (a + 1) hp.2 (fun y hy => ?_)
    have h1 := hp.1 y hy
    have h2 := (h y (by simp [hy])).2
    exact ⟨by omega, by omega⟩
theorem up_in : ∀ (s : List Int) (a : Int), upI s a = true → s.Nodup ∧ ∀ x ∈ s, a ≤ x ∧ x < a + s.length
  | [], _, _ => ⟨List.nodup_nil, by simp⟩
  | x :: s, a, h => by
    rw [upI, Bool.and_eq_true, decide_eq_true_eq] at h
    obtain ⟨rfl, h⟩ := h
    obtain ⟨h1, h2⟩ := up_in s (x + 1) h
    refine ⟨List.nodup_cons.2 ⟨fun hx => by have := h2 x hx; omega, h1⟩, fun y hy => ?_⟩
    rw [List.length_cons]
    rcases List.mem_cons.1 hy with rfl | hy
    · omega
    · have := h2 y hy
      omega
theorem sortI_perm (l : List Int) : (sortI l).Perm l := List.mergeSort_perm l _
theorem sortI_sorted (l : List Int) : (sortI l).Pairwise (· ≤ ·) := by
  have h := List.pairwise_mergeSort (le := fun x y : Int => decide (x ≤ y)) (fun a b c h1 h2 => by rw [decide_eq_true_eq] at h1 h2 ⊢; omega) (fun a b => by rw [Bool.or_eq_true, decide_eq_true_eq, decide_eq_true_eq]; omega) l
  exact h.imp (fun h => of_decide_eq_true h)
/-- The numbers are an order of so many. -/
def ordB (l : List Int) (m : Int) : Bool := decide ((l.length : Int) = m) && ordP m [] l
theorem ordB_impl (l : List Int) (m : Int) : (upI (sortI l) 0 && decide ((l.length : Int) = m)) = ordB l m := by
  unfold ordB
  rw [Bool.and_comm]
  by_cases h : (l.length : Int) = m
  · rw [decide_eq_true h, Bool.true_and, Bool.true_and, Bool.eq_iff_iff, ordP_iff]
    have hm : ∀ x, x ∈ sortI l ↔ x ∈ l := fun x => (sortI_perm l).mem_iff
    have hl := sortI_length l
    constructor
    · intro hu
      obtain ⟨h1, h2⟩ := up_in _ _ hu
      refine ⟨fun x hx => ?_, by simp, (sortI_perm l).nodup_iff.1 h1⟩
      have := h2 x ((hm x).2 hx)
      rw [hl] at this
      omega
    · rintro ⟨h1, _, h3⟩
      refine up_of _ _ ?_ (fun x hx => ?_)
      · exact ((sortI_sorted l).and ((sortI_perm l).nodup_iff.2 h3)).imp (fun h => by omega)
      · have := h1 x ((hm x).1 hx)
        rw [hl]
        omega
  · rw [decide_eq_false h, Bool.false_and, Bool.false_and]
theorem ordB_in {l : List Int} {m : Int} (h : ordB l m = true) : (l.length : Int) = m ∧ ∀ x ∈ l, 0 ≤ x ∧ x < m := by
  unfold ordB at h
  rw [Bool.and_eq_true, decide_eq_true_eq, ordP_iff] at h
  exact ⟨h.1, fun x hx => by have := h.2.1 x hx; omega⟩
theorem implOrder (l : List Int) (m : Int) (hl : l.length ≤ 17592186044416) : impl_isOrder.f l m = some (ordB l m) := by
  unfold impl_isOrder.f
  rw [if_pos hl, ordB_impl]
theorem ev_l7Order_l (l : List Int) (hn : l.length ≤ 4611686018427387904) : ∀ (suf pre : List Int), l = pre ++ suf → Ev (fun k => spec_l7Order.l0 k l (l.length : Int) l (l.length : Int) (pre.length : Int)) (ordP (l.length : Int) pre suf)
  | [], pre, e => by
    subst e
    refine Ev.round (f := fun _ => some true) (fun k => ?_) (Ev.now _)
    simp only [spec_l7Order.l0]
    rw [if_neg (by simp)]
  | x :: suf, pre, e => by
    have hw : wrap64 ((l.length : Int) - 1) = (l.length : Int) - 1 := by unfold wrap64; omega
    subst e
    have ih := ev_l7Order_l (pre ++ x :: suf) hn suf (pre ++ [x]) (snoc_mid _ _ _)
    have ht : (pre ++ x :: suf).take ((pre.length : Int)).toNat = pre := by simp
    have hle : (pre.length : Int) ≤ ((pre ++ x :: suf).length : Int) := by simp; omega
    refine Ev.round (fun k => by simp only [spec_l7Order.l0]; rw [if_pos (lt_mid _ _ _), rd_mid, hw, up_mid pre suf x (by omega), ht]) ?_
    refine Ev.ite_pos (by omega) (Ev.ite_pos (lt_mid _ _ _) (Ev.bindc (in_eq _ _ _) ?_))
    rw [ordP]
    by_cases c : (decide (0 ≤ x) && decide (x ≤ ((pre ++ x :: suf).length : Int) - 1)) = true
    · rw [c, Bool.true_and]
      refine Ev.ite_pos rfl (Ev.ite_pos hle (Ev.bind (ev_l1Has pre x (by simp at hn; omega)) ?_))
      by_cases d : x ∈ pre
      · rw [decide_eq_true d]
        exact Ev.ite_pos rfl (Ev.now _)
      · rw [decide_eq_false d]
        exact Ev.ite_neg (by decide) (by simpa using ih)
    · rw [Bool.eq_false_iff.2 c]
      exact Ev.ite_neg (by decide) (by rw [Bool.false_and, Bool.false_and]; exact Ev.now _)
theorem ev_l7Order (l : List Int) (m : Int) (hn : l.length ≤ 4611686018427387904) : Ev (fun k => spec_l7Order.f k l m) (ordB l m) := by
  unfold spec_l7Order.f ordB
  by_cases h : (l.length : Int) = m
  · subst h
    rw [decide_eq_true rfl, Bool.true_and]
    exact Ev.ite_pos rfl (ev_l7Order_l l hn l [] rfl)
  · rw [decide_eq_false h]
    exact Ev.ite_neg h (Ev.now _)

end Go.Proofs.Ytcbjfnkeieeecaa.Pure
