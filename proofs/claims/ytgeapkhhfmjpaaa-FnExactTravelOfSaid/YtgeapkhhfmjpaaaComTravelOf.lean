import Derived.Test.YtgeapkhhfmjpaaaGLTravelOf0
import Derived.Test.YtgeapkhhfmjpaaaGLTravelOf1
import Derived.Test.YtgeapkhhfmjpaaaGLTravelOf2
import Derived.Test.YtgeapkhhfmjpaaaGLTravelOf3
import Derived.Test.YtgeapkhhfmjpaaaGLTravelOf4
import Derived.Test.YtgeapkhhfmjpaaaGLTravelOf5
import Derived.Test.YtgeapkhhfmjpaaaGLTravelOf6
namespace Go.Proofs.Ytgeapkhhfmjpaaa.Pure
open Go.RowKit Go.Proofs.Ytgeapkhhfmjpaaa.GLTravelOf Go.Proofs.YtgeapkhhfmjpaaaW.PrintWords Go.Proofs.YtgeapkhhfmjpaaaW.PrintLast Go.Proofs.YtgeapkhhfmjpaaaW.PrintMore Go.Proofs.YtgeapkhhfmjpaaaW.PrintOwn
set_option linter.unusedVariables false
set_option linter.unusedSimpArgs false
/-! rounds: what a loop over a list answers -/
theorem Ev.det {α : Type} {g : Nat → Option α} {r : α} (h : ∀ k, g k = some r) : Ev g r := ⟨0, fun k _ => h k⟩
theorem Ev.bind' {α β : Type} {g : Nat → Option α} {f : Nat → α → Option β} {a : α} {r : β} (h : Ev g a) (k : Ev (fun n => f n a) r) : Ev (fun n => (g n).bind (f n)) r := Ev.bind h k
theorem Ev.bindc {α β : Type} {g : Option α} {f : Nat → α → Option β} {a : α} {r : β} (h : g = some a) (k : Ev (fun n => f n a) r) : Ev (fun n => g.bind (f n)) r := by
  subst h
  exact k
/-- One round. -/
theorem Ev.round {α : Type} {g f : Nat → Option α} {r : α} (h : ∀ k, g (k + 1) = f k) (k : Ev f r) : Ev g r := Ev.step h k
theorem Ev.eqv {α : Type} {g f : Nat → Option α} {r : α} (h : ∀ k, g k = f k) (k : Ev f r) : Ev g r := Ev.congr h k
theorem Ev.cast {α : Type} {g : Nat → Option α} {r r' : α} (h : Ev g r) (e : r = r') : Ev g r' := e ▸ h
theorem Ev.ite_pos {α : Type} {c : Prop} [Decidable c] {g f : Nat → Option α} {r : α} (hc : c) (k : Ev g r) : Ev (fun n => if c then g n else f n) r := by
  refine Ev.eqv (fun n => ?_) k
  rw [if_pos hc]
theorem Ev.ite_neg {α : Type} {c : Prop} [Decidable c] {g f : Nat → Option α} {r : α} (hc : ¬ c) (k : Ev f r) : Ev (fun n => if c then g n else f n) r := by
  refine Ev.eqv (fun n => ?_) k
  rw [if_neg hc]
theorem getD_mid {α : Type} (d : α) (pre suf : List α) (x : α) : (pre ++ x :: suf).getD (pre.length : Int).toNat d = x := by
  rw [Int.toNat_natCast, List.getD_eq_getElem?_getD, List.getElem?_append_right (Nat.le_refl _), Nat.sub_self]
  rfl
theorem rd_mid (pre suf : List Int) (x : Int) : rd (pre ++ x :: suf) (pre.length : Int) = x := getD_mid 0 pre suf x
theorem rdOf_mid {α : Type} (d : α) (pre suf : List α) (x : α) : rdOf d (pre ++ x :: suf) (pre.length : Int) = x := getD_mid d pre suf x
theorem lt_mid {α : Type} (pre suf : List α) (x : α) : (pre.length : Int) < ((pre ++ x :: suf).length : Int) := by
  rw [List.length_append, List.length_cons]; omega
theorem up_mid {α : Type} (pre suf : List α) (x : α) (h : (pre ++ x :: suf).length ≤ 9223372036854775807) : wrap64 ((pre.length : Int) + 1) = ((pre ++ [x]).length : Int) := by
  rw [List.length_append, List.length_cons] at h
  rw [List.length_append, List.length_singleton]
  unfold wrap64
  omega
theorem snoc_mid {α : Type} (pre suf : List α) (x : α) : pre ++ x :: suf = (pre ++ [x]) ++ suf := by simp
theorem wfb {x : Int} (h : (Lit.int .i64 x).wf = true) : -9223372036854775808 ≤ x ∧ x ≤ 9223372036854775807 := by
  simp [Lit.wf, IntKind.min, IntKind.max, IntKind.bits, IntKind.signed] at h
  omega
theorem all_wfb {l : List Int} (h : ∀ x ∈ l, (Lit.int .i64 x).wf = true) : ∀ x ∈ l, -9223372036854775808 ≤ x ∧ x ≤ 9223372036854775807 := fun x hx => wfb (h x hx)
theorem wrap_id {x : Int} (h0 : -9223372036854775808 ≤ x) (h1 : x ≤ 9223372036854775807) : wrap64 x = x := by unfold wrap64; omega

/-! slices of ints -/
/-- All numbers lie between two. -/
def allIn (l : List Int) (lo hi : Int) : Bool := l.all fun n => decide (lo ≤ n) && decide (n ≤ hi)
theorem allIn_iff {l : List Int} {lo hi : Int} : allIn l lo hi = true ↔ ∀ x ∈ l, lo ≤ x ∧ x ≤ hi := by
  unfold allIn
  rw [List.all_eq_true]
  simp
/-- Where a number first stands, -1 if nowhere. -/
def idxI (l : List Int) (n : Int) : Int := match l.findIdx? (fun x => x == n) with
  | some i => (i : Int)
  | none => -1
theorem idxI_nil (n : Int) : idxI [] n = -1 := rfl
theorem idxI_cons (x : Int) (l : List Int) (n : Int) : idxI (x :: l) n = if x = n then 0 else if idxI l n = -1 then -1 else idxI l n + 1 := by
  unfold idxI
  rw [List.findIdx?_cons]
  by_cases c : x = n
  · simp [c]
  · simp only [beq_iff_eq, c, if_false]
    cases h : l.findIdx? fun x => x == n with
    | none => simp
    | some i =>
      have : ¬ ((i : Int) = -1) := by omega
      simp [this]
theorem idxI_ge (l : List Int) (n : Int) : -1 ≤ idxI l n := by
  unfold idxI
  split <;> omega
theorem idxI_mem (l : List Int) (n : Int) : decide (idxI l n ≥ 0) = decide (n ∈ l) := by
  induction l with
  | nil => rfl
  | cons x l ih =>
    rw [idxI_cons]
    have hg := idxI_ge l n
    by_cases c : x = n
    · simp [c]
    · rw [if_neg c]
      rw [decide_eq_decide] at ih ⊢
      rw [List.mem_cons]
      split
      · have : ¬ n ∈ l := fun h => by have := ih.2 h; omega
        simp [Ne.symm c, this]
      · have : n ∈ l := ih.1 (by omega)
        simp [this]
        omega
/-- The sum, as Go's ints tell it. -/
def sumFrom (s : Int) : List Int → Int
  | [] => s
  | x :: l => sumFrom (wrap64 (s + x)) l

theorem ev_toIntS_l (l : List Int) (hn : l.length ≤ 35184372088832) : ∀ (suf pre : List Int), l = pre ++ suf → ∀ (z : List Int), z.length = suf.length → Ev (fun k => laws_toIntS.l0 k l (pre ++ z) (pre.length : Int)) l
  | [], pre, e, z, hz => by
    subst e
    have : z = [] := List.length_eq_zero_iff.1 hz
    subst this
    refine Ev.round (f := fun _ => some (pre ++ [])) (fun k => ?_) (Ev.now _)
    simp only [laws_toIntS.l0]
    rw [if_neg (by simp)]
  | x :: suf, pre, e, [], hz => by simp at hz
  | x :: suf, pre, e, y :: z, hz => by
    subst e
    have ih := ev_toIntS_l (pre ++ x :: suf) hn suf (pre ++ [x]) (snoc_mid _ _ _) z (by simpa using hz)
    refine Ev.round (fun k => ?_) ih
    simp only [laws_toIntS.l0]
    rw [if_pos (lt_mid _ _ _), if_pos (by omega), if_pos (lt_mid _ _ _), rd_mid, up_mid pre suf x (by omega)]
    congr 1
    rw [Int.toNat_natCast, List.set_append_right _ _ (Nat.le_refl _), Nat.sub_self, List.set_cons_zero]
    simp
theorem ev_toIntS (l : List Int) (hn : l.length ≤ 35184372088832) : Ev (fun k => laws_toIntS.f k l) l := by
  have h := ev_toIntS_l l hn l [] rfl (List.replicate l.length 0) (by simp)
  refine Ev.eqv (fun k => ?_) h
  unfold laws_toIntS.f
  rw [if_pos (by omega), Int.toNat_natCast, if_pos hn]
  rfl

theorem ev_eqIntS_l (a b : List Int) (hab : a.length = b.length) (hn : a.length ≤ 9223372036854775807) : ∀ (sa pa sb pb : List Int), a = pa ++ sa → b = pb ++ sb → pa.length = pb.length → Ev (fun k => laws_eqIntS.l0 k a b (pa.length : Int)) (decide (sa = sb))
  | [], pa, sb, pb, ea, eb, hp => by
    subst ea
    refine Ev.round (f := fun _ => some true) (fun k => ?_) (Ev.cast (Ev.now _) ?_)
    · simp only [laws_eqIntS.l0]
      rw [if_neg (by simp)]
    · have : sb = [] := by
        rw [eb] at hab
        simp at hab
        exact List.length_eq_zero_iff.1 (by omega)
      rw [this]; rfl
  | x :: sa, pa, [], pb, ea, eb, hp => by
    rw [ea, eb] at hab
    simp at hab
    omega
  | x :: sa, pa, y :: sb, pb, ea, eb, hp => by
    subst ea
    subst eb
    have h1 : ((pa.length : Nat) : Int) = (pb.length : Int) := by omega
    by_cases e : x = y
    · subst e
      have ih := ev_eqIntS_l (pa ++ x :: sa) (pb ++ x :: sb) hab hn sa (pa ++ [x]) sb (pb ++ [x]) (snoc_mid _ _ _) (snoc_mid _ _ _) (by simp [hp])
      refine Ev.round (fun k => ?_) (Ev.cast ih (by simp))
      simp only [laws_eqIntS.l0]
      rw [if_pos (lt_mid _ _ _), if_pos (by omega), if_pos (by rw [h1]; exact lt_mid _ _ _), rd_mid, h1, rd_mid, if_pos rfl, ← h1, up_mid _ _ _ hn]
    · refine Ev.round (f := fun _ => some false) (fun k => ?_) (Ev.cast (Ev.now _) (by simp [e]))
      simp only [laws_eqIntS.l0]
      rw [if_pos (lt_mid _ _ _), if_pos (by omega), if_pos (by rw [h1]; exact lt_mid _ _ _), rd_mid, h1, rd_mid, if_neg e]
theorem ev_eqIntS (a b : List Int) (hn : a.length ≤ 9223372036854775807) : Ev (fun k => laws_eqIntS.f k a b) (decide (a = b)) := by
  unfold laws_eqIntS.f
  by_cases h : a.length = b.length
  · exact Ev.ite_pos (by omega) (ev_eqIntS_l a b h hn a [] b [] rfl rfl rfl)
  · refine Ev.ite_neg (by omega) (Ev.cast (Ev.now _) ?_)
    rw [decide_eq_false]
    rintro rfl
    exact h rfl

theorem in_eq (a lo hi : Int) : spec_l1In.f a lo hi = some (decide (lo ≤ a) && decide (a ≤ hi)) := by
  unfold spec_l1In.f
  by_cases h : a ≥ lo
  · rw [if_pos h]; simp [h]
  · rw [if_neg h]; simp [h]

theorem within_eq (a lo hi : Int) : impl_within.f a lo hi = some (decide (lo ≤ a) && decide (a ≤ hi)) := by
  unfold impl_within.f
  by_cases h : a ≥ lo
  · rw [if_pos h]; simp [h]
  · rw [if_neg h]; simp [h]

theorem ev_l1All_l (l : List Int) (lo hi : Int) (hn : l.length ≤ 9223372036854775807) : ∀ (suf pre : List Int), l = pre ++ suf → Ev (fun k => spec_l1All.l0 k lo hi l (l.length : Int) (pre.length : Int)) (allIn suf lo hi)
  | [], pre, e => by
    subst e
    refine Ev.round (f := fun _ => some true) (fun k => ?_) (Ev.now _)
    simp only [spec_l1All.l0]
    rw [if_neg (by simp)]
  | x :: suf, pre, e => by
    subst e
    by_cases c : (decide (lo ≤ x) && decide (x ≤ hi)) = true
    · have ih := ev_l1All_l (pre ++ x :: suf) lo hi hn suf (pre ++ [x]) (snoc_mid _ _ _)
      refine Ev.round (fun k => ?_) (Ev.cast ih (by unfold allIn; rw [List.all_cons, c, Bool.true_and]))
      simp only [spec_l1All.l0]
      rw [if_pos (lt_mid _ _ _), if_pos (by omega), if_pos (lt_mid _ _ _), rd_mid, in_eq, Option.bind_some, if_pos c, up_mid _ _ _ hn]
    · refine Ev.round (f := fun _ => some false) (fun k => ?_) (Ev.cast (Ev.now _) (by unfold allIn; rw [List.all_cons, Bool.eq_false_iff.2 c, Bool.false_and]))
      simp only [spec_l1All.l0]
      rw [if_pos (lt_mid _ _ _), if_pos (by omega), if_pos (lt_mid _ _ _), rd_mid, in_eq, Option.bind_some, if_neg c]
theorem ev_l1All (l : List Int) (lo hi : Int) (hn : l.length ≤ 9223372036854775807) : Ev (fun k => spec_l1All.f k l lo hi) (allIn l lo hi) := ev_l1All_l l lo hi hn l [] rfl

theorem allWithin_eq (l : List Int) (lo hi : Int) : impl_allWithin.f l lo hi = some (allIn l lo hi) := rfl

theorem ev_l3Sum_l (l : List Int) (hn : l.length ≤ 9223372036854775807) : ∀ (suf pre : List Int) (s : Int), l = pre ++ suf → Ev (fun k => spec_l3Sum.l0 k s l (l.length : Int) (pre.length : Int)) (sumFrom s suf)
  | [], pre, s, e => by
    subst e
    refine Ev.round (f := fun _ => some s) (fun k => ?_) (Ev.now _)
    simp only [spec_l3Sum.l0]
    rw [if_neg (by simp)]
  | x :: suf, pre, s, e => by
    subst e
    have ih := ev_l3Sum_l (pre ++ x :: suf) hn suf (pre ++ [x]) (wrap64 (s + x)) (snoc_mid _ _ _)
    refine Ev.round (fun k => ?_) ih
    simp only [spec_l3Sum.l0]
    rw [if_pos (lt_mid _ _ _), if_pos (by omega), if_pos (lt_mid _ _ _), rd_mid, up_mid _ _ _ hn]
theorem ev_l3Sum (l : List Int) (hn : l.length ≤ 9223372036854775807) : Ev (fun k => spec_l3Sum.f k l) (sumFrom 0 l) := ev_l3Sum_l l hn l [] 0 rfl

theorem ev_sum_l (l : List Int) (hn : l.length ≤ 9223372036854775807) : ∀ (suf pre : List Int) (s : Int), l = pre ++ suf → Ev (fun k => impl_sum.l0 k s l (l.length : Int) (pre.length : Int)) (sumFrom s suf)
  | [], pre, s, e => by
    subst e
    refine Ev.round (f := fun _ => some s) (fun k => ?_) (Ev.now _)
    simp only [impl_sum.l0]
    rw [if_neg (by simp)]
  | x :: suf, pre, s, e => by
    subst e
    have ih := ev_sum_l (pre ++ x :: suf) hn suf (pre ++ [x]) (wrap64 (s + x)) (snoc_mid _ _ _)
    refine Ev.round (fun k => ?_) ih
    simp only [impl_sum.l0]
    rw [if_pos (lt_mid _ _ _), if_pos (by omega), if_pos (lt_mid _ _ _), rd_mid, up_mid _ _ _ hn]
theorem ev_sum (l : List Int) (hn : l.length ≤ 9223372036854775807) : Ev (fun k => impl_sum.f k l) (sumFrom 0 l) := ev_sum_l l hn l [] 0 rfl


theorem ev_l1Same_l (a b : List Int) (hab : a.length = b.length) (hn : a.length ≤ 9223372036854775807) : ∀ (sa pa sb pb : List Int), a = pa ++ sa → b = pb ++ sb → pa.length = pb.length → Ev (fun k => spec_l1Same.l0 k a b (a.length : Int) (pa.length : Int)) (decide (sa = sb))
  | [], pa, sb, pb, ea, eb, hp => by
    subst ea
    refine Ev.round (f := fun _ => some true) (fun k => ?_) (Ev.cast (Ev.now _) ?_)
    · simp only [spec_l1Same.l0]
      rw [if_neg (by simp)]
    · have : sb = [] := by
        rw [eb] at hab
        simp at hab
        exact List.length_eq_zero_iff.1 (by omega)
      rw [this]; rfl
  | x :: sa, pa, [], pb, ea, eb, hp => by
    rw [ea, eb] at hab
    simp at hab
    omega
  | x :: sa, pa, y :: sb, pb, ea, eb, hp => by
    subst ea
    subst eb
    have h1 : ((pa.length : Nat) : Int) = (pb.length : Int) := by omega
    have h2 : (pa.length : Int) < ((pb ++ y :: sb).length : Int) := by rw [h1]; exact lt_mid _ _ _
    have h3 : rd (pb ++ y :: sb) (pa.length : Int) = y := by rw [h1]; exact rd_mid _ _ _
    by_cases e : x = y
    · subst e
      have ih := ev_l1Same_l (pa ++ x :: sa) (pb ++ x :: sb) hab hn sa (pa ++ [x]) sb (pb ++ [x]) (snoc_mid _ _ _) (snoc_mid _ _ _) (by simp [hp])
      refine Ev.round (fun k => ?_) (Ev.cast ih (by simp))
      simp only [spec_l1Same.l0]
      rw [if_pos (lt_mid _ _ _), if_pos (by omega), if_pos (lt_mid _ _ _), if_pos h2, rd_mid, h3, if_pos rfl, up_mid _ _ _ hn]
    · refine Ev.round (f := fun _ => some false) (fun k => ?_) (Ev.cast (Ev.now _) (by simp [e]))
      simp only [spec_l1Same.l0]
      rw [if_pos (lt_mid _ _ _), if_pos (by omega), if_pos (lt_mid _ _ _), if_pos h2, rd_mid, h3, if_neg e]
theorem ev_l1Same (a b : List Int) (hn : a.length ≤ 9223372036854775807) : Ev (fun k => spec_l1Same.f k a b) (decide (a = b)) := by
  unfold spec_l1Same.f
  by_cases h : a.length = b.length
  · exact Ev.ite_pos (by omega) (ev_l1Same_l a b h hn a [] b [] rfl rfl rfl)
  · refine Ev.ite_neg (by omega) (Ev.cast (Ev.now _) ?_)
    rw [decide_eq_false]
    rintro rfl
    exact h rfl


theorem ev_Equal_l (a b : List Int) (hab : a.length = b.length) (hn : a.length ≤ 9223372036854775807) : ∀ (sa pa sb pb : List Int), a = pa ++ sa → b = pb ++ sb → pa.length = pb.length → Ev (fun k => slices_Equal_int_int.l0 k a b (a.length : Int) (pa.length : Int)) (decide (sa = sb))
  | [], pa, sb, pb, ea, eb, hp => by
    subst ea
    refine Ev.round (f := fun _ => some true) (fun k => ?_) (Ev.cast (Ev.now _) ?_)
    · simp only [slices_Equal_int_int.l0]
      rw [if_neg (by simp)]
    · have : sb = [] := by
        rw [eb] at hab
        simp at hab
        exact List.length_eq_zero_iff.1 (by omega)
      rw [this]; rfl
  | x :: sa, pa, [], pb, ea, eb, hp => by
    rw [ea, eb] at hab
    simp at hab
    omega
  | x :: sa, pa, y :: sb, pb, ea, eb, hp => by
    subst ea
    subst eb
    have h1 : ((pa.length : Nat) : Int) = (pb.length : Int) := by omega
    have h2 : (pa.length : Int) < ((pb ++ y :: sb).length : Int) := by rw [h1]; exact lt_mid _ _ _
    have h3 : rd (pb ++ y :: sb) (pa.length : Int) = y := by rw [h1]; exact rd_mid _ _ _
    by_cases e : x = y
    · subst e
      have ih := ev_Equal_l (pa ++ x :: sa) (pb ++ x :: sb) hab hn sa (pa ++ [x]) sb (pb ++ [x]) (snoc_mid _ _ _) (snoc_mid _ _ _) (by simp [hp])
      refine Ev.round (fun k => ?_) (Ev.cast ih (by simp))
      simp only [slices_Equal_int_int.l0]
      rw [if_pos (lt_mid _ _ _), if_pos (by omega), if_pos (lt_mid _ _ _), if_pos h2, rd_mid, h3, if_pos rfl, up_mid _ _ _ hn]
    · refine Ev.round (f := fun _ => some false) (fun k => ?_) (Ev.cast (Ev.now _) (by simp [e]))
      simp only [slices_Equal_int_int.l0]
      rw [if_pos (lt_mid _ _ _), if_pos (by omega), if_pos (lt_mid _ _ _), if_pos h2, rd_mid, h3, if_neg e]
theorem ev_Equal (a b : List Int) (hn : a.length ≤ 9223372036854775807) : Ev (fun k => slices_Equal_int_int.f k a b) (decide (a = b)) := by
  unfold slices_Equal_int_int.f
  by_cases h : a.length = b.length
  · exact Ev.ite_pos (by omega) (ev_Equal_l a b h hn a [] b [] rfl rfl rfl)
  · refine Ev.ite_neg (by omega) (Ev.cast (Ev.now _) ?_)
    rw [decide_eq_false]
    rintro rfl
    exact h rfl

/-! marks in slices of ints -/

/-! a house: counts and owners -/

/-- The owners counted; none where one is no good. -/
def countIn (n : Int) : List Int → List Int → Option (List Int)
  | own, [] => some own
  | own, x :: l => if 0 ≤ x ∧ x < n then countIn n (own.set x.toNat (wrap64 (rd own x + 1))) l else none
def fitB (counts owners : List Int) : Bool := match countIn counts.length (List.replicate counts.length 0) owners with
  | some own => decide (own = counts)
  | none => false
theorem ev_l17Fit_l (counts owners : List Int) (hc : counts.length ≤ 35184372088832) (hn : owners.length ≤ 9223372036854775807) : ∀ (suf pre own : List Int), owners = pre ++ suf → own.length = counts.length →
    Ev (fun k => spec_l17Fit.l0 k counts own owners (owners.length : Int) (pre.length : Int)) (match countIn counts.length own suf with | some o => decide (o = counts) | none => false)
  | [], pre, own, e, ho => by
    subst e
    refine Ev.round (fun k => ?_) (Ev.bind (ev_l1Same own counts (by omega)) (f := fun _ t => some t) (Ev.cast (Ev.now _) (by rfl)))
    simp only [spec_l17Fit.l0]
    rw [if_neg (by simp)]
  | x :: suf, pre, own, e, ho => by
    subst e
    by_cases h0 : x < 0
    · refine Ev.round (f := fun _ => some false) (fun k => ?_) (Ev.cast (Ev.now _) (by simp only [countIn]; rw [if_neg (by omega)]))
      simp only [spec_l17Fit.l0]
      rw [if_pos (lt_mid _ _ _), if_pos (by omega), if_pos (lt_mid _ _ _), rd_mid, if_pos h0]
    · by_cases h1 : x ≥ (counts.length : Int)
      · refine Ev.round (f := fun _ => some false) (fun k => ?_) (Ev.cast (Ev.now _) (by simp only [countIn]; rw [if_neg (by omega)]))
        simp only [spec_l17Fit.l0]
        rw [if_pos (lt_mid _ _ _), if_pos (by omega), if_pos (lt_mid _ _ _), rd_mid, if_neg h0, if_pos h1]
      · have ih := ev_l17Fit_l counts (pre ++ x :: suf) hc hn suf (pre ++ [x]) (own.set x.toNat (wrap64 (rd own x + 1))) (snoc_mid _ _ _) (by simpa using ho)
        refine Ev.round (fun k => ?_) (Ev.cast ih (by simp only [countIn]; rw [if_pos ⟨by omega, by omega⟩]))
        simp only [spec_l17Fit.l0]
        rw [if_pos (lt_mid _ _ _), if_pos (by omega), if_pos (lt_mid _ _ _), rd_mid, if_neg h0, if_neg h1, if_pos (by omega), if_pos (by omega), up_mid _ _ _ hn]
theorem ev_l17Fit (counts owners : List Int) (hc : counts.length ≤ 35184372088832) (hn : owners.length ≤ 9223372036854775807) : Ev (fun k => spec_l17Fit.f k counts owners) (fitB counts owners) := by
  refine Ev.eqv (fun k => ?_) (ev_l17Fit_l counts owners hc hn owners [] (List.replicate counts.length 0) rfl (by simp))
  unfold spec_l17Fit.f
  rw [if_pos (by omega), Int.toNat_natCast, if_pos hc]
  rfl

theorem ev_fit_l (counts owners : List Int) (hc : counts.length ≤ 35184372088832) (hn : owners.length ≤ 9223372036854775807) : ∀ (suf pre own : List Int), owners = pre ++ suf → own.length = counts.length →
    Ev (fun k => impl_fit.l0 k counts own owners (owners.length : Int) (pre.length : Int)) (match countIn counts.length own suf with | some o => decide (o = counts) | none => false)
  | [], pre, own, e, ho => by
    subst e
    refine Ev.round (fun k => ?_) (Ev.bind (ev_Equal own counts (by omega)) (f := fun _ t => some t) (Ev.cast (Ev.now _) (by rfl)))
    simp only [impl_fit.l0]
    rw [if_neg (by simp)]
  | x :: suf, pre, own, e, ho => by
    subst e
    have hw : wrap64 ((counts.length : Int) - 1) = (counts.length : Int) - 1 := by unfold wrap64; omega
    by_cases h0 : (decide (0 ≤ x) && decide (x ≤ (counts.length : Int) - 1)) = true
    · have h1 : 0 ≤ x ∧ x ≤ (counts.length : Int) - 1 := by simpa using h0
      have ih := ev_fit_l counts (pre ++ x :: suf) hc hn suf (pre ++ [x]) (own.set x.toNat (wrap64 (rd own x + 1))) (snoc_mid _ _ _) (by simpa using ho)
      refine Ev.round (fun k => ?_) (Ev.cast ih (by simp only [countIn]; rw [if_pos ⟨by omega, by omega⟩]))
      simp only [impl_fit.l0]
      rw [if_pos (lt_mid _ _ _), if_pos (by omega), if_pos (lt_mid _ _ _), rd_mid, hw, within_eq, Option.bind_some, if_pos h0, if_pos (by omega), if_pos (by omega), up_mid _ _ _ hn]
    · refine Ev.round (f := fun _ => some false) (fun k => ?_) (Ev.cast (Ev.now _) (by simp only [countIn]; rw [if_neg (fun hh => h0 (by simp; omega))]))
      simp only [impl_fit.l0]
      rw [if_pos (lt_mid _ _ _), if_pos (by omega), if_pos (lt_mid _ _ _), rd_mid, hw, within_eq, Option.bind_some, if_neg h0]
theorem ev_fit (counts owners : List Int) (hc : counts.length ≤ 35184372088832) (hn : owners.length ≤ 9223372036854775807) : Ev (fun k => impl_fit.f k counts owners) (fitB counts owners) := by
  refine Ev.eqv (fun k => ?_) (ev_fit_l counts owners hc hn owners [] (List.replicate counts.length 0) rfl (by simp))
  unfold impl_fit.f
  rw [if_pos (by omega), Int.toNat_natCast, if_pos hc]
  rfl

theorem sum_set : ∀ (l : List Int) (i : Nat) (v : Int), i < l.length → (l.set i v).sum + l.getD i 0 = l.sum + v
  | [], i, v, h => by simp at h
  | x :: l, 0, v, h => by simp; omega
  | x :: l, i + 1, v, h => by
    have := sum_set l i v (by simpa using h)
    simp only [List.set_cons_succ, List.sum_cons, List.getD_cons_succ]
    omega
theorem countIn_sum (n : Nat) : ∀ (owners own own' : List Int), own.length = n → (∀ x ∈ own, 0 ≤ x ∧ x + owners.length ≤ 9223372036854775807) → countIn n own owners = some own' → own'.sum = own.sum + owners.length
  | [], own, own', hl, hb, h => by
    simp only [countIn, Option.some.injEq] at h
    subst h
    simp
  | x :: l, own, own', hl, hb, h => by
    simp only [countIn] at h
    split at h
    case isFalse => cases h
    case isTrue hx =>
    have hlt : x.toNat < own.length := by omega
    have hm : rd own x ∈ own := by
      unfold rd
      rw [List.getD_eq_getElem?_getD, List.getElem?_eq_getElem hlt]
      exact List.getElem_mem hlt
    have hbx := hb _ hm
    rw [List.length_cons] at hbx
    have hw : wrap64 (rd own x + 1) = rd own x + 1 := by unfold wrap64; omega
    rw [hw] at h
    have := countIn_sum n l _ own' (by simpa using hl) (fun y hy => by
      rcases List.mem_or_eq_of_mem_set hy with hy | rfl
      · have := hb y hy
        rw [List.length_cons] at this
        omega
      · omega) h
    have h2 := sum_set own x.toNat (rd own x + 1) hlt
    rw [this, List.length_cons]
    have h3 : own.getD x.toNat 0 = rd own x := rfl
    omega
theorem sum_replicate0 (n : Nat) : (List.replicate n (0 : Int)).sum = 0 := by
  induction n with
  | zero => rfl
  | succ n ih => rw [List.replicate_succ, List.sum_cons, ih]; rfl
theorem fitB_sum {counts owners : List Int} (hn : owners.length ≤ 9223372036854775807) (h : fitB counts owners = true) : counts.sum = owners.length := by
  unfold fitB at h
  split at h
  case h_2 => cases h
  case h_1 own ho =>
  rw [decide_eq_true_iff] at h
  subst h
  have := countIn_sum own.length owners _ own (by simp) (fun x hx => by
    have := List.eq_of_mem_replicate hx
    omega) ho
  rw [this, sum_replicate0]
  omega
theorem sumFrom_eq : ∀ (l : List Int) (s : Int), (∀ x ∈ l, 0 ≤ x ∧ x ≤ 1000000) → 0 ≤ s → s + 1000000 * l.length ≤ 9223372036854775807 → sumFrom s l = s + l.sum
  | [], s, _, _, _ => by simp [sumFrom]
  | x :: l, s, hb, h0, h1 => by
    have hx := hb x (by simp)
    rw [List.length_cons] at h1
    have hw : wrap64 (s + x) = s + x := by unfold wrap64; omega
    rw [sumFrom, hw, sumFrom_eq l (s + x) (fun y hy => hb y (by simp [hy])) (by omega) (by omega), List.sum_cons]
    omega

/-- Counts as said for so many slots. -/
def countsB (counts : List Int) (slots : Int) : Bool := ((decide (1 ≤ (counts.length : Int)) && decide ((counts.length : Int) ≤ 8)) && allIn counts 1 10) && (decide (sumFrom 0 counts = slots) && decide (slots ≤ 10))
theorem ev_l17Counts (counts : List Int) (s : Int) (hn : counts.length ≤ 9223372036854775807) : Ev (fun k => spec_l17Counts.f k counts s) (countsB counts s) := by
  unfold spec_l17Counts.f countsB
  refine Ev.bindc (in_eq _ _ _) ?_
  by_cases h1 : (decide (1 ≤ (counts.length : Int)) && decide ((counts.length : Int) ≤ 8)) = true
  · refine Ev.ite_pos h1 (Ev.bind (ev_l1All counts 1 10 hn) ?_)
    rw [h1]
    cases h2 : allIn counts 1 10 with
    | true =>
      refine Ev.ite_pos rfl (Ev.bind (ev_l3Sum counts hn) ?_)
      by_cases h3 : sumFrom 0 counts = s
      · exact Ev.ite_pos h3 (Ev.cast (Ev.now _) (by simp [h3]))
      · exact Ev.ite_neg h3 (Ev.cast (Ev.now _) (by simp [h3]))
    | false => exact Ev.ite_neg (by simp) (Ev.cast (Ev.now _) (by simp))
  · refine Ev.ite_neg h1 (Ev.cast (Ev.now _) ?_)
    rw [Bool.eq_false_iff.2 h1]
    rfl

def housedB (counts : List Int) : Bool := ((decide (1 ≤ (counts.length : Int)) && decide ((counts.length : Int) ≤ 8)) && allIn counts 1 10) && decide (sumFrom 0 counts ≤ 10)
theorem ev_areHoused (counts : List Int) (hn : counts.length ≤ 9223372036854775807) : Ev (fun k => impl_areHoused.f k counts) (housedB counts) := by
  unfold impl_areHoused.f housedB
  refine Ev.bindc (within_eq _ _ _) ?_
  by_cases h1 : (decide (1 ≤ (counts.length : Int)) && decide ((counts.length : Int) ≤ 8)) = true
  · refine Ev.ite_pos h1 (Ev.bindc (allWithin_eq counts 1 10) ?_)
    rw [h1]
    cases h2 : allIn counts 1 10 with
    | true => exact Ev.ite_pos rfl (Ev.bind (ev_sum counts hn) (Ev.cast (Ev.now _) (by simp)))
    | false => exact Ev.ite_neg (by simp) (Ev.cast (Ev.now _) (by simp))
  · refine Ev.ite_neg h1 (Ev.cast (Ev.now _) ?_)
    rw [Bool.eq_false_iff.2 h1]
    rfl
theorem housedB_iff {counts : List Int} (h : housedB counts = true) : counts.length ≤ 8 ∧ (∀ x ∈ counts, 1 ≤ x ∧ x ≤ 10) ∧ sumFrom 0 counts ≤ 10 ∧ sumFrom 0 counts = counts.sum := by
  unfold housedB at h
  simp only [Bool.and_eq_true, decide_eq_true_iff, allIn_iff] at h
  refine ⟨by omega, h.1.2, h.2, ?_⟩
  rw [sumFrom_eq counts 0 (fun x hx => by have := h.1.2 x hx; omega) (by omega) (by omega)]
  omega

theorem ev_areWays (counts ways : List Int) (hn : counts.length ≤ 9223372036854775807) : Ev (fun k => impl_areWays.f k counts ways) (housedB counts && (decide ((ways.length : Int) = sumFrom 0 counts) && allIn ways 0 1000)) := by
  unfold impl_areWays.f
  refine Ev.bind (ev_areHoused counts hn) ?_
  cases h : housedB counts with
  | true =>
    refine Ev.ite_pos rfl (Ev.bind (ev_sum counts hn) ?_)
    by_cases h2 : (ways.length : Int) = sumFrom 0 counts
    · exact Ev.ite_pos h2 (Ev.bindc (allWithin_eq ways 0 1000) (Ev.cast (Ev.now _) (by simp [h2])))
    · exact Ev.ite_neg h2 (Ev.cast (Ev.now _) (by simp [h2]))
  | false => exact Ev.ite_neg (by simp) (Ev.cast (Ev.now _) (by simp))

theorem counts_same (counts ways : List Int) : countsB counts (ways.length : Int) = (housedB counts && decide ((ways.length : Int) = sumFrom 0 counts)) := by
  unfold countsB housedB
  generalize ((decide (1 ≤ (counts.length : Int)) && decide ((counts.length : Int) ≤ 8)) && allIn counts 1 10) = b
  cases b with
  | false => rfl
  | true =>
    rw [Bool.eq_iff_iff]
    simp only [Bool.true_and, Bool.and_eq_true, decide_eq_true_iff]
    omega

/-! fractions that are not below 0 -/

theorem ev_gcd_l : ∀ (n a b : Nat), b ≤ n → a ≤ 4611686018427387904 → b ≤ 4611686018427387904 → Ev (fun k => spec_l1Gcd.l0 k (a : Int) (b : Int)) ((Nat.gcd a b : Nat) : Int)
  | 0, a, b, hb, h1, h2 => by
    have : b = 0 := by omega
    subst this
    refine Ev.round (f := fun _ => some (a : Int)) (fun k => ?_) (Ev.cast (Ev.now _) (by simp))
    simp only [spec_l1Gcd.l0]
    rw [if_neg (by omega)]
  | n + 1, a, b, hb, h1, h2 => by
    by_cases h0 : b = 0
    · subst h0
      refine Ev.round (f := fun _ => some (a : Int)) (fun k => ?_) (Ev.cast (Ev.now _) (by simp))
      simp only [spec_l1Gcd.l0]
      rw [if_neg (by omega)]
    · have hm : a % b < b := Nat.mod_lt _ (by omega)
      have ih := ev_gcd_l n b (a % b) (by omega) h2 (by omega)
      refine Ev.round (fun k => ?_) (Ev.cast ih (by rw [Nat.gcd_comm b, ← Nat.gcd_rec, Nat.gcd_comm]))
      simp only [spec_l1Gcd.l0]
      rw [if_pos (by omega), if_neg (by omega), Int.tmod_eq_emod_of_nonneg (by omega), ← Int.natCast_emod]
theorem ev_gcd (a b : Int) (h0 : 0 ≤ a) (h1 : a ≤ 4611686018427387904) (h2 : 0 ≤ b) (h3 : b ≤ 4611686018427387904) : Ev (fun k => spec_l1Gcd.f k a b) ((Nat.gcd a.toNat b.toNat : Nat) : Int) := by
  unfold spec_l1Gcd.f spec_l1Abs.f
  rw [if_neg (by omega), if_neg (by omega)]
  simp only [Option.bind_some]
  have := ev_gcd_l b.toNat a.toNat b.toNat (Nat.le_refl _) (by omega) (by omega)
  rw [Int.toNat_of_nonneg h0, Int.toNat_of_nonneg h2] at this
  exact this
theorem ev_div_l : ∀ (n a b : Nat), b ≤ n → a ≤ 4611686018427387904 → b ≤ 4611686018427387904 → Ev (fun k => impl_divisor.l0 k (a : Int) (b : Int)) ((Nat.gcd a b : Nat) : Int)
  | 0, a, b, hb, h1, h2 => by
    have : b = 0 := by omega
    subst this
    refine Ev.round (f := fun _ => some (a : Int)) (fun k => ?_) (Ev.cast (Ev.now _) (by simp))
    simp only [impl_divisor.l0]
    rw [if_pos (by omega)]
    unfold mx wrap64
    rw [if_neg (by omega)]
  | n + 1, a, b, hb, h1, h2 => by
    by_cases h0 : b = 0
    · subst h0
      refine Ev.round (f := fun _ => some (a : Int)) (fun k => ?_) (Ev.cast (Ev.now _) (by simp))
      simp only [impl_divisor.l0]
      rw [if_pos (by omega)]
      unfold mx wrap64
      rw [if_neg (by omega)]
    · have hm : a % b < b := Nat.mod_lt _ (by omega)
      have ih := ev_div_l n b (a % b) (by omega) h2 (by omega)
      refine Ev.round (fun k => ?_) (Ev.cast ih (by rw [Nat.gcd_comm b, ← Nat.gcd_rec, Nat.gcd_comm]))
      simp only [impl_divisor.l0]
      rw [if_neg (by omega), Int.tmod_eq_emod_of_nonneg (by omega), ← Int.natCast_emod]
theorem ev_div (a b : Int) (h0 : 0 ≤ a) (h1 : a ≤ 4611686018427387904) (h2 : 0 ≤ b) (h3 : b ≤ 4611686018427387904) : Ev (fun k => impl_divisor.f k a b) ((Nat.gcd a.toNat b.toNat : Nat) : Int) := by
  unfold impl_divisor.f
  have := ev_div_l b.toNat a.toNat b.toNat (Nat.le_refl _) (by omega) (by omega)
  rw [Int.toNat_of_nonneg h0, Int.toNat_of_nonneg h2] at this
  exact this
def gcdZ (a b : Int) : Int := ((Nat.gcd a.toNat b.toNat : Nat) : Int)
theorem gcdZ_pos {a b : Int} (h : 0 < b) : 0 < gcdZ a b := by
  unfold gcdZ
  have : 0 < Nat.gcd a.toNat b.toNat := Nat.gcd_pos_of_pos_right _ (by omega)
  omega
theorem gcdZ_le {a b : Int} (h : 0 < b) : gcdZ a b ≤ b := by
  unfold gcdZ
  have : Nat.gcd a.toNat b.toNat ≤ b.toNat := Nat.gcd_le_right _ (by omega)
  omega

def goodZ (n d : Int) : Bool := (decide (-1000000000 ≤ n) && decide (n ≤ 1000000000)) && ((decide (1 ≤ d) && decide (d ≤ 1000000000)) && (gcdZ n d == 1))
theorem ev_specGoodFrac (n d : Int) (h0 : 0 ≤ n) : Ev (fun k => spec_GoodFrac.f k n d) (goodZ n d) := by
  unfold spec_GoodFrac.f goodZ
  refine Ev.bindc (in_eq _ _ _) ?_
  by_cases h1 : (decide (-1000000000 ≤ n) && decide (n ≤ 1000000000)) = true
  · rw [h1]
    refine Ev.ite_pos rfl (Ev.bindc (in_eq _ _ _) ?_)
    by_cases h2 : (decide (1 ≤ d) && decide (d ≤ 1000000000)) = true
    · rw [h2]
      simp at h1 h2
      refine Ev.ite_pos rfl (Ev.bind (ev_gcd n d h0 (by omega) (by omega) (by omega)) ?_)
      exact Ev.cast (Ev.now _) (by simp [gcdZ])
    · rw [Bool.eq_false_iff.2 h2]
      exact Ev.ite_neg (by simp) (Ev.now _)
  · rw [Bool.eq_false_iff.2 h1]
    exact Ev.ite_neg (by simp) (Ev.now _)
theorem ev_implGoodFrac (n d : Int) (h0 : 0 ≤ n) : Ev (fun k => impl_GoodFrac.f k n d) (goodZ n d) := by
  unfold impl_GoodFrac.f goodZ
  refine Ev.bindc (within_eq _ _ _) ?_
  by_cases h1 : (decide (-1000000000 ≤ n) && decide (n ≤ 1000000000)) = true
  · rw [h1]
    refine Ev.ite_pos rfl (Ev.bindc (within_eq _ _ _) ?_)
    by_cases h2 : (decide (1 ≤ d) && decide (d ≤ 1000000000)) = true
    · rw [h2]
      simp at h1 h2
      refine Ev.ite_pos rfl (Ev.bind (ev_div n d h0 (by omega) (by omega) (by omega)) ?_)
      exact Ev.cast (Ev.now _) (by simp [gcdZ])
    · rw [Bool.eq_false_iff.2 h2]
      exact Ev.ite_neg (by simp) (Ev.now _)
  · rw [Bool.eq_false_iff.2 h1]
    exact Ev.ite_neg (by simp) (Ev.now _)
/-- In lowest terms. -/
def mkZ (n d : Int) : Int × Int := (n / gcdZ n d, d / gcdZ n d)
theorem mkZ_pos {n d : Int} (h0 : 0 ≤ n) (h1 : 0 < d) : 0 ≤ (mkZ n d).1 ∧ (mkZ n d).1 ≤ n ∧ 0 ≤ (mkZ n d).2 ∧ (mkZ n d).2 ≤ d := by
  have hg := gcdZ_pos (a := n) h1
  unfold mkZ
  refine ⟨Int.ediv_nonneg h0 (by omega), Int.ediv_le_self _ h0, Int.ediv_nonneg (by omega) (by omega), Int.ediv_le_self _ (by omega)⟩
theorem ev_l1Make (n d : Int) (h0 : 0 ≤ n) (h1 : n ≤ 4611686018427387904) (h2 : 0 < d) (h3 : d ≤ 4611686018427387904) : Ev (fun k => spec_l1Make.f k n d) (mkZ n d) := by
  unfold spec_l1Make.f
  refine Ev.ite_neg (by omega) (Ev.bind (ev_gcd n d h0 h1 (by omega) h3) ?_)
  have hg := gcdZ_pos (a := n) h2
  have hp := mkZ_pos h0 h2
  refine Ev.ite_neg (by unfold gcdZ at hg; omega) (Ev.cast (Ev.now _) ?_)
  rw [Int.tdiv_eq_ediv_of_nonneg h0, Int.tdiv_eq_ediv_of_nonneg (by omega)]
  show (wrap64 (mkZ n d).1, wrap64 (mkZ n d).2) = mkZ n d
  rw [wrap_id (by omega) (by omega), wrap_id (by omega) (by omega)]
theorem ev_lowest (n d : Int) (h0 : 0 ≤ n) (h1 : n ≤ 4611686018427387904) (h2 : 0 < d) (h3 : d ≤ 4611686018427387904) : Ev (fun k => impl_lowest.f k n d) (if goodZ (mkZ n d).1 (mkZ n d).2 = true then ((mkZ n d).1, (mkZ n d).2, true) else (0, 0, false)) := by
  unfold impl_lowest.f
  have hg := gcdZ_pos (a := n) h2
  have hp := mkZ_pos h0 h2
  refine Ev.bind (ev_div n d h0 h1 (by omega) h3) (Ev.ite_neg (by omega) (Ev.ite_neg (by unfold gcdZ at hg; omega) ?_))
  have e1 : wrap64 (Int.tdiv n (((Nat.gcd n.toNat d.toNat : Nat) : Int))) = (mkZ n d).1 := by
    rw [Int.tdiv_eq_ediv_of_nonneg h0]
    show wrap64 (mkZ n d).1 = _
    exact wrap_id (by omega) (by omega)
  have e2 : wrap64 (Int.tdiv d (((Nat.gcd n.toNat d.toNat : Nat) : Int))) = (mkZ n d).2 := by
    rw [Int.tdiv_eq_ediv_of_nonneg (by omega)]
    show wrap64 (mkZ n d).2 = _
    exact wrap_id (by omega) (by omega)
  rw [e1, e2]
  refine Ev.bind (ev_implGoodFrac _ _ hp.1) ?_
  cases h : goodZ (mkZ n d).1 (mkZ n d).2 with
  | true => exact Ev.ite_pos rfl (Ev.cast (Ev.now _) (by simp))
  | false => exact Ev.ite_neg (by simp) (Ev.cast (Ev.now _) (by simp))
theorem goodZ_iff {n d : Int} (h : goodZ n d = true) : n ≤ 1000000000 ∧ 1 ≤ d ∧ d ≤ 1000000000 := by
  unfold goodZ at h
  simp only [Bool.and_eq_true, decide_eq_true_iff] at h
  omega
theorem mkZ_good {n d : Int} (h0 : 0 ≤ n) (h1 : n ≤ 1000000000) (h2 : 0 < d) (h3 : d ≤ 1000000000) : goodZ (mkZ n d).1 (mkZ n d).2 = true := by
  have hp := mkZ_pos h0 h2
  have hg := gcdZ_pos (a := n) h2
  have hl := gcdZ_le (a := n) h2
  have h4 : 1 ≤ (mkZ n d).2 := by
    unfold mkZ
    show 1 ≤ d / gcdZ n d
    rw [Int.le_ediv_iff_mul_le hg]
    omega
  have h5 : gcdZ (mkZ n d).1 (mkZ n d).2 = 1 := by
    obtain ⟨a, rfl⟩ := Int.eq_ofNat_of_zero_le h0
    obtain ⟨b, rfl⟩ := Int.eq_ofNat_of_zero_le (show 0 ≤ d by omega)
    unfold mkZ gcdZ
    simp only [Int.toNat_natCast]
    rw [← Int.natCast_ediv, ← Int.natCast_ediv, Int.toNat_natCast, Int.toNat_natCast, Nat.gcd_div_gcd_div_gcd_of_pos_right (by omega)]
    rfl
  unfold goodZ
  rw [h5]
  simp
  omega
/-- The sum, in lowest terms, where it is good. -/
def addZ (a b : Int × Int) : Int × Int × Bool :=
  if goodZ a.1 a.2 = true ∧ goodZ b.1 b.2 = true then
    (let r := mkZ (a.1 * b.2 + b.1 * a.2) (a.2 * b.2); if goodZ r.1 r.2 = true then (r.1, r.2, true) else (0, 0, false))
  else (0, 0, false)
theorem add_bounds {a b : Int × Int} (ha : 0 ≤ a.1) (hb : 0 ≤ b.1) (h1 : goodZ a.1 a.2 = true) (h2 : goodZ b.1 b.2 = true) :
    0 ≤ a.1 * b.2 ∧ a.1 * b.2 ≤ 1000000000000000000 ∧ 0 ≤ b.1 * a.2 ∧ b.1 * a.2 ≤ 1000000000000000000 ∧ 0 < a.2 * b.2 ∧ a.2 * b.2 ≤ 1000000000000000000 := by
  have g1 := goodZ_iff h1
  have g2 := goodZ_iff h2
  refine ⟨Int.mul_nonneg ha (by omega), ?_, Int.mul_nonneg hb (by omega), ?_, Int.mul_pos (by omega) (by omega), ?_⟩
  · have := Int.mul_le_mul (a := a.1) (c := 1000000000) (b := b.2) (d := 1000000000) g1.1 g2.2.2 (by omega) (by omega)
    omega
  · have := Int.mul_le_mul (a := b.1) (c := 1000000000) (b := a.2) (d := 1000000000) g2.1 g1.2.2 (by omega) (by omega)
    omega
  · have := Int.mul_le_mul (a := a.2) (c := 1000000000) (b := b.2) (d := 1000000000) g1.2.2 g2.2.2 (by omega) (by omega)
    omega

theorem ev_specAddFrac (a b : Int × Int) (ha : 0 ≤ a.1) (hb : 0 ≤ b.1) : Ev (fun k => spec_AddFrac.f k a.1 a.2 b.1 b.2) (addZ a b) := by
  unfold spec_AddFrac.f spec_l1Both.f addZ
  by_cases h1 : goodZ a.1 a.2 = true
  · by_cases h2 : goodZ b.1 b.2 = true
    · have hbd := add_bounds ha hb h1 h2
      rw [if_pos ⟨h1, h2⟩]
      refine Ev.bind (a := true) (Ev.bind (ev_specGoodFrac _ _ ha) (Ev.ite_pos h1 (Ev.bind (ev_specGoodFrac _ _ hb) (Ev.cast (Ev.now _) h2)))) ?_
      refine Ev.ite_pos rfl ?_
      unfold spec_l1Add.f
      rw [wrap_id (x := a.1 * b.2) (by omega) (by omega), wrap_id (x := b.1 * a.2) (by omega) (by omega), wrap_id (x := a.1 * b.2 + b.1 * a.2) (by omega) (by omega), wrap_id (x := a.2 * b.2) (by omega) (by omega)]
      refine Ev.bind (Ev.bind (ev_l1Make _ _ (by omega) (by omega) hbd.2.2.2.2.1 (by omega)) (Ev.now _)) ?_
      unfold spec_l1Fits.f
      have hp := mkZ_pos (n := a.1 * b.2 + b.1 * a.2) (d := a.2 * b.2) (by omega) hbd.2.2.2.2.1
      by_cases h3 : goodZ (mkZ (a.1 * b.2 + b.1 * a.2) (a.2 * b.2)).1 (mkZ (a.1 * b.2 + b.1 * a.2) (a.2 * b.2)).2 = true
      · refine Ev.bind (Ev.bind (ev_specGoodFrac _ _ hp.1) (Ev.ite_pos h3 (Ev.now _))) (Ev.cast (Ev.now _) ?_)
        rw [if_pos h3]
      · refine Ev.bind (Ev.bind (ev_specGoodFrac _ _ hp.1) (Ev.ite_neg h3 (Ev.now _))) (Ev.cast (Ev.now _) ?_)
        rw [if_neg h3]
    · rw [if_neg (fun h => h2 h.2)]
      exact Ev.bind (a := false) (Ev.bind (ev_specGoodFrac _ _ ha) (Ev.ite_pos h1 (Ev.bind (ev_specGoodFrac _ _ hb) (Ev.cast (Ev.now _) (Bool.eq_false_iff.2 h2))))) (Ev.ite_neg (by simp) (Ev.now _))
  · rw [if_neg (fun h => h1 h.1)]
    exact Ev.bind (a := false) (Ev.bind (ev_specGoodFrac _ _ ha) (Ev.ite_neg h1 (Ev.now _))) (Ev.ite_neg (by simp) (Ev.now _))
theorem ev_areFracs2 (a b : Int × Int) (ha : 0 ≤ a.1) (hb : 0 ≤ b.1) : Ev (fun k => impl_areFracs.f k [(⟨a.1, a.2⟩ : S39), (⟨b.1, b.2⟩ : S39)]) (goodZ a.1 a.2 && goodZ b.1 b.2) := by
  obtain ⟨K, h1⟩ := ev_implGoodFrac a.1 a.2 ha
  obtain ⟨K', h2⟩ := ev_implGoodFrac b.1 b.2 hb
  refine ⟨max K K', fun k hk => ?_⟩
  have e1 := h1 k (by omega)
  have e2 := h2 k (by omega)
  unfold impl_areFracs.f
  simp only [List.all_cons, List.all_nil, e1, e2]
  simp
theorem ev_implAddFrac (a b : Int × Int) (ha : 0 ≤ a.1) (hb : 0 ≤ b.1) : Ev (fun k => impl_AddFrac.f k a.1 a.2 b.1 b.2) (addZ a b) := by
  unfold impl_AddFrac.f addZ
  refine Ev.bind (ev_areFracs2 a b ha hb) ?_
  by_cases h : goodZ a.1 a.2 = true ∧ goodZ b.1 b.2 = true
  · have hbd := add_bounds ha hb h.1 h.2
    rw [if_pos h]
    refine Ev.ite_pos (by rw [h.1, h.2]; rfl) ?_
    rw [wrap_id (x := a.1 * b.2) (by omega) (by omega), wrap_id (x := b.1 * a.2) (by omega) (by omega), wrap_id (x := a.1 * b.2 + b.1 * a.2) (by omega) (by omega), wrap_id (x := a.2 * b.2) (by omega) (by omega)]
    refine Ev.bind (ev_lowest _ _ (by omega) (by omega) hbd.2.2.2.2.1 (by omega)) (Ev.cast (Ev.now _) ?_)
    rfl
  · rw [if_neg h]
    refine Ev.ite_neg ?_ (Ev.now _)
    rw [Bool.and_eq_true]
    exact h
theorem addZ_nonneg (a b : Int × Int) (ha : 0 ≤ a.1) (hb : 0 ≤ b.1) : 0 ≤ (addZ a b).1 := by
  unfold addZ
  split
  · rename_i h
    have hbd := add_bounds ha hb h.1 h.2
    have hp := mkZ_pos (n := a.1 * b.2 + b.1 * a.2) (d := a.2 * b.2) (by omega) hbd.2.2.2.2.1
    simp only
    split
    · exact hp.1
    · exact Int.le_refl _
  · exact Int.le_refl _

def sumZ : Int × Int → List S39 → Int × Int × Bool
  | a, [] => (a.1, a.2, true)
  | a, x :: l => if (addZ a (x.f0, x.f1)).2.2 = true then sumZ ((addZ a (x.f0, x.f1)).1, (addZ a (x.f0, x.f1)).2.1) l else (0, 0, false)
theorem ev_SumFracs_l (l : List S39) (hn : l.length ≤ 1048576) (h0 : ∀ x ∈ l, 0 ≤ x.f0) : ∀ (suf pre : List S39) (a : Int × Int), l = pre ++ suf → 0 ≤ a.1 → Ev (fun k => spec_SumFracs.l0 k l (l.length : Int) (pre.length : Int) a.1 a.2) (sumZ a suf)
  | [], pre, a, e, ha => by
    refine Ev.round (f := fun _ => some (a.1, a.2, true)) (fun k => ?_) (Ev.now _)
    simp only [spec_SumFracs.l0]
    rw [if_neg (by subst e; simp)]
  | x :: suf, pre, a, e, ha => by
    have h1 : (pre.length : Int) < (l.length : Int) := by rw [e]; exact lt_mid _ _ _
    have h2 : rd_T39 l (pre.length : Int) = x := by rw [e]; exact getD_mid _ _ _ _
    have h3 : wrap64 ((pre.length : Int) + 1) = ((pre ++ [x]).length : Int) := by rw [List.length_append, List.length_singleton]; unfold wrap64; omega
    have hx := h0 x (by rw [e]; simp)
    have ih := ev_SumFracs_l l hn h0 suf (pre ++ [x]) ((addZ a (x.f0, x.f1)).1, (addZ a (x.f0, x.f1)).2.1) (by rw [e]; simp) (addZ_nonneg a (x.f0, x.f1) ha hx)
    refine Ev.round (fun k => ?_) (Ev.bind (ev_specAddFrac a (x.f0, x.f1) ha hx) (f := fun k t => if t.2.2 = true then spec_SumFracs.l0 k l (l.length : Int) (wrap64 ((pre.length : Int) + 1)) t.1 t.2.1 else some (0, 0, false)) ?_)
    · simp only [spec_SumFracs.l0]
      rw [if_pos h1, if_pos (by omega), if_pos h1, h2]
    · rw [sumZ, h3]
      by_cases c : (addZ a (x.f0, x.f1)).2.2 = true
      · rw [if_pos c]
        exact Ev.ite_pos c ih
      · rw [if_neg c]
        exact Ev.ite_neg c (Ev.now _)
theorem ev_sumFracs_l (l : List S39) (hn : l.length ≤ 1048576) (h0 : ∀ x ∈ l, 0 ≤ x.f0) : ∀ (suf pre : List S39) (a : Int × Int), l = pre ++ suf → 0 ≤ a.1 → Ev (fun k => impl_sumFracs.l0 k l (l.length : Int) (pre.length : Int) a.1 a.2) (sumZ a suf)
  | [], pre, a, e, ha => by
    refine Ev.round (f := fun _ => some (a.1, a.2, true)) (fun k => ?_) (Ev.now _)
    simp only [impl_sumFracs.l0]
    rw [if_neg (by subst e; simp)]
  | x :: suf, pre, a, e, ha => by
    have h1 : (pre.length : Int) < (l.length : Int) := by rw [e]; exact lt_mid _ _ _
    have h2 : rd_T39 l (pre.length : Int) = x := by rw [e]; exact getD_mid _ _ _ _
    have h3 : wrap64 ((pre.length : Int) + 1) = ((pre ++ [x]).length : Int) := by rw [List.length_append, List.length_singleton]; unfold wrap64; omega
    have hx := h0 x (by rw [e]; simp)
    have ih := ev_sumFracs_l l hn h0 suf (pre ++ [x]) ((addZ a (x.f0, x.f1)).1, (addZ a (x.f0, x.f1)).2.1) (by rw [e]; simp) (addZ_nonneg a (x.f0, x.f1) ha hx)
    refine Ev.round (fun k => ?_) (Ev.bind (ev_implAddFrac a (x.f0, x.f1) ha hx) (f := fun k t => if t.2.2 = true then impl_sumFracs.l0 k l (l.length : Int) (wrap64 ((pre.length : Int) + 1)) t.1 t.2.1 else some (0, 0, false)) ?_)
    · simp only [impl_sumFracs.l0]
      rw [if_pos h1, if_pos (by omega), if_pos h1, h2]
    · rw [sumZ, h3]
      by_cases c : (addZ a (x.f0, x.f1)).2.2 = true
      · rw [if_pos c]
        exact Ev.ite_pos c ih
      · rw [if_neg c]
        exact Ev.ite_neg c (Ev.now _)
theorem ev_specSumFracs (l : List S39) (hn : l.length ≤ 50) (h0 : ∀ x ∈ l, 0 ≤ x.f0) : Ev (fun k => spec_SumFracs.f k l) (sumZ (0, 1) l) := by
  unfold spec_SumFracs.f
  exact Ev.ite_neg (by omega) (ev_SumFracs_l l (by omega) h0 l [] (0, 1) rfl (by simp))
theorem ev_implSumFracs (l : List S39) (hn : l.length ≤ 50) (h0 : ∀ x ∈ l, 0 ≤ x.f0) : Ev (fun k => impl_sumFracs.f k l) (sumZ (0, 1) l) := by
  unfold impl_sumFracs.f
  exact ev_sumFracs_l l (by omega) h0 l [] (0, 1) rfl (by simp)

end Go.Proofs.Ytgeapkhhfmjpaaa.Pure
