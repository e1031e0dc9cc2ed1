import Derived.Test.YtccnpnlmihcmlaaGLStartOf0
import Derived.Test.YtccnpnlmihcmlaaGLStartOf1
import Derived.Test.YtccnpnlmihcmlaaGLStartOf2
import Derived.Test.YtccnpnlmihcmlaaGLStartOf3
import Derived.Test.YtccnpnlmihcmlaaGLStartOf4
import Derived.Test.YtccnpnlmihcmlaaGLStartOf5
import Derived.Test.YtccnpnlmihcmlaaGLStartOf6
import Derived.Test.YtccnpnlmihcmlaaGLStartOf7
import Derived.Test.YtccnpnlmihcmlaaGLStartOf8
namespace Go.Proofs.Ytccnpnlmihcmlaa.Pure
open Go.RowKit Go.Proofs.Ytccnpnlmihcmlaa.GLStartOf Go.Proofs.YtccnpnlmihcmlaaW.PrintWords Go.Proofs.YtccnpnlmihcmlaaW.PrintLast Go.Proofs.YtccnpnlmihcmlaaW.PrintMore Go.Proofs.YtccnpnlmihcmlaaW.PrintOwn
set_option linter.unusedVariables false
set_option linter.unusedSimpArgs false
theorem Ev.bindc {α β : Type} {g : Option α} {f : Nat → α → Option β} {a : α} {r : β} (h : g = some a) (k : Ev (fun n => f n a) r) : Ev (fun n => g.bind (f n)) r := by
  subst h
  exact k
/-- One round. -/
theorem Ev.round {α : Type} {g f : Nat → Option α} {r : α} (h : ∀ k, g (k + 1) = f k) (k : Ev f r) : Ev g r := Ev.step h k
theorem Ev.eqv {α : Type} {g f : Nat → Option α} {r : α} (h : ∀ k, g k = f k) (k : Ev f r) : Ev g r := Ev.congr h k
theorem Ev.cast {α : Type} {g : Nat → Option α} {r r' : α} (h : Ev g r) (e : r = r') : Ev g r' := e ▸ h
theorem Ev.ite_pos {α : Type} {c : Prop} [Decidable c] {g f : Nat → Option α} {r : α} (hc : c) (k : Ev g r) : Ev (fun n => if c then g n else f n) r := by
  refine Ev.eqv (fun n => ?_) k
  rw [if_pos hc]
theorem Ev.ite_neg {α : Type} {c : Prop} [Decidable c] {g f : Nat → Option α} {r : α} (hc : ¬ c) (k : Ev f r) : Ev (fun n => if c then g n else f n) r := by
  refine Ev.eqv (fun n => ?_) k
  rw [if_neg hc]
theorem getD_mid {α : Type} (d : α) (pre suf : List α) (x : α) : (pre ++ x :: suf).getD (pre.length : Int).toNat d = x := by
  rw [Int.toNat_natCast, List.getD_eq_getElem?_getD, List.getElem?_append_right (Nat.le_refl _), Nat.sub_self]
  rfl
theorem rd_mid (pre suf : List Int) (x : Int) : rd (pre ++ x :: suf) (pre.length : Int) = x := getD_mid 0 pre suf x
theorem lt_mid {α : Type} (pre suf : List α) (x : α) : (pre.length : Int) < ((pre ++ x :: suf).length : Int) := by
  rw [List.length_append, List.length_cons]; omega
theorem up_mid {α : Type} (pre suf : List α) (x : α) (h : (pre ++ x :: suf).length ≤ 9223372036854775807) : wrap64 ((pre.length : Int) + 1) = ((pre ++ [x]).length : Int) := by
  rw [List.length_append, List.length_cons] at h
  rw [List.length_append, List.length_singleton]
  unfold wrap64
  omega
theorem snoc_mid {α : Type} (pre suf : List α) (x : α) : pre ++ x :: suf = (pre ++ [x]) ++ suf := by simp
/-- All numbers lie between two. -/
def allIn (l : List Int) (lo hi : Int) : Bool := l.all fun n => decide (lo ≤ n) && decide (n ≤ hi)
theorem allIn_iff {l : List Int} {lo hi : Int} : allIn l lo hi = true ↔ ∀ x ∈ l, lo ≤ x ∧ x ≤ hi := by
  unfold allIn
  rw [List.all_eq_true]
  simp
/-- Where a number first stands, -1 if nowhere. -/
def idxI (l : List Int) (n : Int) : Int := match l.findIdx? (fun x => x == n) with
  | some i => (i : Int)
  | none => -1
theorem idxI_nil (n : Int) : idxI [] n = -1 := rfl
theorem idxI_cons (x : Int) (l : List Int) (n : Int) : idxI (x :: l) n = if x = n then 0 else if idxI l n = -1 then -1 else idxI l n + 1 := by
  unfold idxI
  rw [List.findIdx?_cons]
  by_cases c : x = n
  · simp [c]
  · simp only [beq_iff_eq, c, if_false]
    cases h : l.findIdx? fun x => x == n with
    | none => simp
    | some i =>
      have : ¬ ((i : Int) = -1) := by omega
      simp [this]
theorem idxI_ge (l : List Int) (n : Int) : -1 ≤ idxI l n := by
  unfold idxI
  split <;> omega
theorem idxI_mem (l : List Int) (n : Int) : decide (idxI l n ≥ 0) = decide (n ∈ l) := by
  induction l with
  | nil => rfl
  | cons x l ih =>
    rw [idxI_cons]
    have hg := idxI_ge l n
    by_cases c : x = n
    · simp [c]
    · rw [if_neg c]
      rw [decide_eq_decide] at ih ⊢
      rw [List.mem_cons]
      split
      · have : ¬ n ∈ l := fun h => by have := ih.2 h; omega
        simp [Ne.symm c, this]
      · have : n ∈ l := ih.1 (by omega)
        simp [this]
        omega
theorem ev_toIntS_l (l : List Int) (hn : l.length ≤ 35184372088832) : ∀ (suf pre : List Int), l = pre ++ suf → ∀ (z : List Int), z.length = suf.length → Ev (fun k => laws_toIntS.l0 k l (pre ++ z) (pre.length : Int)) l
  | [], pre, e, z, hz => by
    subst e
    have : z = [] := List.length_eq_zero_iff.1 hz
    subst this
    refine Ev.round (f := fun _ => some (pre ++ [])) (fun k => ?_) (Ev.now _)
    simp only [laws_toIntS.l0]
    rw [if_neg (by simp)]
  | x :: suf, pre, e, [], hz => by simp at hz
  | x :: suf, pre, e, y :: z, hz => by
    subst e
    have ih := ev_toIntS_l (pre ++ x :: suf) hn suf (pre ++ [x]) (snoc_mid _ _ _) z (by simpa using hz)
    refine Ev.round (fun k => ?_) ih
    simp only [laws_toIntS.l0]
    rw [if_pos (lt_mid _ _ _), if_pos (by omega), if_pos (lt_mid _ _ _), rd_mid, up_mid pre suf x (by omega)]
    congr 1
    rw [Int.toNat_natCast, List.set_append_right _ _ (Nat.le_refl _), Nat.sub_self, List.set_cons_zero]
    simp
theorem ev_toIntS (l : List Int) (hn : l.length ≤ 35184372088832) : Ev (fun k => laws_toIntS.f k l) l := by
  have h := ev_toIntS_l l hn l [] rfl (List.replicate l.length 0) (by simp)
  refine Ev.eqv (fun k => ?_) h
  unfold laws_toIntS.f
  rw [if_pos (by omega), Int.toNat_natCast, if_pos hn]
  rfl
theorem ev_eqIntS_l (a b : List Int) (hab : a.length = b.length) (hn : a.length ≤ 9223372036854775807) : ∀ (sa pa sb pb : List Int), a = pa ++ sa → b = pb ++ sb → pa.length = pb.length → Ev (fun k => laws_eqIntS.l0 k a b (pa.length : Int)) (decide (sa = sb))
  | [], pa, sb, pb, ea, eb, hp => by
    subst ea
    refine Ev.round (f := fun _ => some true) (fun k => ?_) (Ev.cast (Ev.now _) ?_)
    · simp only [laws_eqIntS.l0]
      rw [if_neg (by simp)]
    · have : sb = [] := by
        rw [eb] at hab
        simp at hab
        exact List.length_eq_zero_iff.1 (by omega)
      rw [this]; rfl
  | x :: sa, pa, [], pb, ea, eb, hp => by
    rw [ea, eb] at hab
    simp at hab
    omega
  | x :: sa, pa, y :: sb, pb, ea, eb, hp => by
    subst ea
    subst eb
    have h1 : ((pa.length : Nat) : Int) = (pb.length : Int) := by omega
    by_cases e : x = y
    · subst e
      have ih := ev_eqIntS_l (pa ++ x :: sa) (pb ++ x :: sb) hab hn sa (pa ++ [x]) sb (pb ++ [x]) (snoc_mid _ _ _) (snoc_mid _ _ _) (by simp [hp])
      refine Ev.round (fun k => ?_) (Ev.cast ih (by simp))
      simp only [laws_eqIntS.l0]
      rw [if_pos (lt_mid _ _ _), if_pos (by omega), if_pos (by rw [h1]; exact lt_mid _ _ _), rd_mid, h1, rd_mid, if_pos rfl, ← h1, up_mid _ _ _ hn]
    · refine Ev.round (f := fun _ => some false) (fun k => ?_) (Ev.cast (Ev.now _) (by simp [e]))
      simp only [laws_eqIntS.l0]
      rw [if_pos (lt_mid _ _ _), if_pos (by omega), if_pos (by rw [h1]; exact lt_mid _ _ _), rd_mid, h1, rd_mid, if_neg e]
theorem ev_eqIntS (a b : List Int) (hn : a.length ≤ 9223372036854775807) : Ev (fun k => laws_eqIntS.f k a b) (decide (a = b)) := by
  unfold laws_eqIntS.f
  by_cases h : a.length = b.length
  · exact Ev.ite_pos (by omega) (ev_eqIntS_l a b h hn a [] b [] rfl rfl rfl)
  · refine Ev.ite_neg (by omega) (Ev.cast (Ev.now _) ?_)
    rw [decide_eq_false]
    rintro rfl
    exact h rfl
theorem in_eq (a lo hi : Int) : spec_l1In.f a lo hi = some (decide (lo ≤ a) && decide (a ≤ hi)) := by
  unfold spec_l1In.f
  by_cases h : a ≥ lo
  · rw [if_pos h]; simp [h]
  · rw [if_neg h]; simp [h]
theorem within_eq (a lo hi : Int) : impl_within.f a lo hi = some (decide (lo ≤ a) && decide (a ≤ hi)) := by
  unfold impl_within.f
  by_cases h : a ≥ lo
  · rw [if_pos h]; simp [h]
  · rw [if_neg h]; simp [h]
theorem ev_l1All_l (l : List Int) (lo hi : Int) (hn : l.length ≤ 9223372036854775807) : ∀ (suf pre : List Int), l = pre ++ suf → Ev (fun k => spec_l1All.l0 k lo hi l (l.length : Int) (pre.length : Int)) (allIn suf lo hi)
  | [], pre, e => by
    subst e
    refine Ev.round (f := fun _ => some true) (fun k => ?_) (Ev.now _)
    simp only [spec_l1All.l0]
    rw [if_neg (by simp)]
  | x :: suf, pre, e => by
    subst e
    by_cases c : (decide (lo ≤ x) && decide (x ≤ hi)) = true
    · have ih := ev_l1All_l (pre ++ x :: suf) lo hi hn suf (pre ++ [x]) (snoc_mid _ _ _)
      refine Ev.round (fun k => ?_) (Ev.cast ih (by unfold allIn; rw [List.all_cons, c, Bool.true_and]))
      simp only [spec_l1All.l0]
      rw [if_pos (lt_mid _ _ _), if_pos (by omega), if_pos (lt_mid _ _ _), rd_mid, in_eq, Option.bind_some, if_pos c, up_mid _ _ _ hn]
    · refine Ev.round (f := fun _ => some false) (fun k => ?_) (Ev.cast (Ev.now _) (by unfold allIn; rw [List.all_cons, Bool.eq_false_iff.2 c, Bool.false_and]))
      simp only [spec_l1All.l0]
      rw [if_pos (lt_mid _ _ _), if_pos (by omega), if_pos (lt_mid _ _ _), rd_mid, in_eq, Option.bind_some, if_neg c]
theorem ev_l1All (l : List Int) (lo hi : Int) (hn : l.length ≤ 9223372036854775807) : Ev (fun k => spec_l1All.f k l lo hi) (allIn l lo hi) := ev_l1All_l l lo hi hn l [] rfl
theorem allWithin_eq (l : List Int) (lo hi : Int) : impl_allWithin.f l lo hi = some (allIn l lo hi) := rfl
theorem ev_l1Has_l (l : List Int) (n : Int) (hn : l.length ≤ 9223372036854775807) : ∀ (suf pre : List Int), l = pre ++ suf → Ev (fun k => spec_l1Has.l0 k n l (l.length : Int) (pre.length : Int)) (decide (n ∈ suf))
  | [], pre, e => by
    subst e
    refine Ev.round (f := fun _ => some false) (fun k => ?_) (Ev.cast (Ev.now _) (by simp))
    simp only [spec_l1Has.l0]
    rw [if_neg (by simp)]
  | x :: suf, pre, e => by
    subst e
    by_cases c : x = n
    · refine Ev.round (f := fun _ => some true) (fun k => ?_) (Ev.cast (Ev.now _) (by simp [c]))
      simp only [spec_l1Has.l0]
      rw [if_pos (lt_mid _ _ _), if_pos (by omega), if_pos (lt_mid _ _ _), rd_mid, if_pos c]
    · have ih := ev_l1Has_l (pre ++ x :: suf) n hn suf (pre ++ [x]) (snoc_mid _ _ _)
      refine Ev.round (fun k => ?_) (Ev.cast ih (by simp [Ne.symm c]))
      simp only [spec_l1Has.l0]
      rw [if_pos (lt_mid _ _ _), if_pos (by omega), if_pos (lt_mid _ _ _), rd_mid, if_neg c, up_mid _ _ _ hn]
theorem ev_l1Has (l : List Int) (n : Int) (hn : l.length ≤ 9223372036854775807) : Ev (fun k => spec_l1Has.f k l n) (decide (n ∈ l)) := ev_l1Has_l l n hn l [] rfl
theorem ev_Index_l (l : List Int) (n : Int) (hn : l.length ≤ 9223372036854775807) : ∀ (suf pre : List Int), l = pre ++ suf → Ev (fun k => slices_Index_int_int.l0 k l n (l.length : Int) (pre.length : Int)) (if idxI suf n = -1 then -1 else (pre.length : Int) + idxI suf n)
  | [], pre, e => by
    subst e
    refine Ev.round (f := fun _ => some (-1)) (fun k => ?_) (Ev.cast (Ev.now _) (by rw [idxI_nil, if_pos rfl]))
    simp only [slices_Index_int_int.l0]
    rw [if_neg (by simp)]
  | x :: suf, pre, e => by
    subst e
    by_cases c : x = n
    · refine Ev.round (f := fun _ => some (pre.length : Int)) (fun k => ?_) (Ev.cast (Ev.now _) (by rw [idxI_cons, if_pos c, if_neg (by omega)]; omega))
      simp only [slices_Index_int_int.l0]
      rw [if_pos (lt_mid _ _ _), if_pos (by omega), if_pos (lt_mid _ _ _), rd_mid, if_pos c.symm]
    · have ih := ev_Index_l (pre ++ x :: suf) n hn suf (pre ++ [x]) (snoc_mid _ _ _)
      have hg := idxI_ge suf n
      refine Ev.round (fun k => ?_) (Ev.cast ih (by rw [idxI_cons, if_neg c, List.length_append, List.length_singleton]; by_cases e : idxI suf n = -1 <;> simp [e]; omega))
      simp only [slices_Index_int_int.l0]
      rw [if_pos (lt_mid _ _ _), if_pos (by omega), if_pos (lt_mid _ _ _), rd_mid, if_neg (Ne.symm c), up_mid _ _ _ hn]
theorem ev_Index (l : List Int) (n : Int) (hn : l.length ≤ 9223372036854775807) : Ev (fun k => slices_Index_int_int.f k l n) (idxI l n) :=
  Ev.cast (ev_Index_l l n hn l [] rfl) (by have := idxI_ge l n; split <;> simp_all)
theorem ev_Contains (l : List Int) (n : Int) (hn : l.length ≤ 9223372036854775807) : Ev (fun k => slices_Contains_int_int.f k l n) (decide (n ∈ l)) := by
  unfold slices_Contains_int_int.f
  exact Ev.bind (ev_Index l n hn) (Ev.cast (Ev.now _) (idxI_mem l n))
theorem ev_l1Same_l (a b : List Int) (hab : a.length = b.length) (hn : a.length ≤ 9223372036854775807) : ∀ (sa pa sb pb : List Int), a = pa ++ sa → b = pb ++ sb → pa.length = pb.length → Ev (fun k => spec_l1Same.l0 k a b (a.length : Int) (pa.length : Int)) (decide (sa = sb))
  | [], pa, sb, pb, ea, eb, hp => by
    subst ea
    refine Ev.round (f := fun _ => some true) (fun k => ?_) (Ev.cast (Ev.now _) ?_)
    · simp only [spec_l1Same.l0]
      rw [if_neg (by simp)]
    · have : sb = [] := by
        rw [eb] at hab
        simp at hab
        exact List.length_eq_zero_iff.1 (by omega)
      rw [this]; rfl
  | x :: sa, pa, [], pb, ea, eb, hp => by
    rw [ea, eb] at hab
    simp at hab
    omega
  | x :: sa, pa, y :: sb, pb, ea, eb, hp => by
    subst ea
    subst eb
    have h1 : ((pa.length : Nat) : Int) = (pb.length : Int) := by omega
    have h2 : (pa.length : Int) < ((pb ++ y :: sb).length : Int) := by rw [h1]; exact lt_mid _ _ _
    have h3 : rd (pb ++ y :: sb) (pa.length : Int) = y := by rw [h1]; exact rd_mid _ _ _
    by_cases e : x = y
    · subst e
      have ih := ev_l1Same_l (pa ++ x :: sa) (pb ++ x :: sb) hab hn sa (pa ++ [x]) sb (pb ++ [x]) (snoc_mid _ _ _) (snoc_mid _ _ _) (by simp [hp])
      refine Ev.round (fun k => ?_) (Ev.cast ih (by simp))
      simp only [spec_l1Same.l0]
      rw [if_pos (lt_mid _ _ _), if_pos (by omega), if_pos (lt_mid _ _ _), if_pos h2, rd_mid, h3, if_pos rfl, up_mid _ _ _ hn]
    · refine Ev.round (f := fun _ => some false) (fun k => ?_) (Ev.cast (Ev.now _) (by simp [e]))
      simp only [spec_l1Same.l0]
      rw [if_pos (lt_mid _ _ _), if_pos (by omega), if_pos (lt_mid _ _ _), if_pos h2, rd_mid, h3, if_neg e]
theorem ev_l1Same (a b : List Int) (hn : a.length ≤ 9223372036854775807) : Ev (fun k => spec_l1Same.f k a b) (decide (a = b)) := by
  unfold spec_l1Same.f
  by_cases h : a.length = b.length
  · exact Ev.ite_pos (by omega) (ev_l1Same_l a b h hn a [] b [] rfl rfl rfl)
  · refine Ev.ite_neg (by omega) (Ev.cast (Ev.now _) ?_)
    rw [decide_eq_false]
    rintro rfl
    exact h rfl
theorem ev_Equal_l (a b : List Int) (hab : a.length = b.length) (hn : a.length ≤ 9223372036854775807) : ∀ (sa pa sb pb : List Int), a = pa ++ sa → b = pb ++ sb → pa.length = pb.length → Ev (fun k => slices_Equal_int_int.l0 k a b (a.length : Int) (pa.length : Int)) (decide (sa = sb))
  | [], pa, sb, pb, ea, eb, hp => by
    subst ea
    refine Ev.round (f := fun _ => some true) (fun k => ?_) (Ev.cast (Ev.now _) ?_)
    · simp only [slices_Equal_int_int.l0]
      rw [if_neg (by simp)]
    · have : sb = [] := by
        rw [eb] at hab
        simp at hab
        exact List.length_eq_zero_iff.1 (by omega)
      rw [this]; rfl
  | x :: sa, pa, [], pb, ea, eb, hp => by
    rw [ea, eb] at hab
    simp at hab
    omega
  | x :: sa, pa, y :: sb, pb, ea, eb, hp => by
    subst ea
    subst eb
    have h1 : ((pa.length : Nat) : Int) = (pb.length : Int) := by omega
    have h2 : (pa.length : Int) < ((pb ++ y :: sb).length : Int) := by rw [h1]; exact lt_mid _ _ _
    have h3 : rd (pb ++ y :: sb) (pa.length : Int) = y := by rw [h1]; exact rd_mid _ _ _
    by_cases e : x = y
    · subst e
      have ih := ev_Equal_l (pa ++ x :: sa) (pb ++ x :: sb) hab hn sa (pa ++ [x]) sb (pb ++ [x]) (snoc_mid _ _ _) (snoc_mid _ _ _) (by simp [hp])
      refine Ev.round (fun k => ?_) (Ev.cast ih (by simp))
      simp only [slices_Equal_int_int.l0]
      rw [if_pos (lt_mid _ _ _), if_pos (by omega), if_pos (lt_mid _ _ _), if_pos h2, rd_mid, h3, if_pos rfl, up_mid _ _ _ hn]
    · refine Ev.round (f := fun _ => some false) (fun k => ?_) (Ev.cast (Ev.now _) (by simp [e]))
      simp only [slices_Equal_int_int.l0]
      rw [if_pos (lt_mid _ _ _), if_pos (by omega), if_pos (lt_mid _ _ _), if_pos h2, rd_mid, h3, if_neg e]
theorem ev_Equal (a b : List Int) (hn : a.length ≤ 9223372036854775807) : Ev (fun k => slices_Equal_int_int.f k a b) (decide (a = b)) := by
  unfold slices_Equal_int_int.f
  by_cases h : a.length = b.length
  · exact Ev.ite_pos (by omega) (ev_Equal_l a b h hn a [] b [] rfl rfl rfl)
  · refine Ev.ite_neg (by omega) (Ev.cast (Ev.now _) ?_)
    rw [decide_eq_false]
    rintro rfl
    exact h rfl
/-- n numbers from a on. -/
def upFrom (a : Int) : Nat → List Int
  | 0 => []
  | n + 1 => a :: upFrom (a + 1) n
theorem ev_markIntS_l : ∀ (suf pre : List Int) (a : Int), 0 ≤ a → a + suf.length ≤ 4611686018427387904 → pre.length + suf.length ≤ 4611686018427387904 → Ev (fun k => laws_markIntS.l0 k (pre ++ suf) a (pre.length : Int)) (a + suf.length, pre ++ upFrom a suf.length)
  | [], pre, a, h0, h1, h2 => by
    refine Ev.round (f := fun _ => some (a, pre ++ [])) (fun k => ?_) (Ev.cast (Ev.now _) (by simp [upFrom]))
    simp only [laws_markIntS.l0]
    rw [if_neg (by simp)]
  | x :: suf, pre, a, h0, h1, h2 => by
    rw [List.length_cons] at h1 h2
    have ih := ev_markIntS_l suf (pre ++ [a]) (a + 1) (by omega) (by omega) (by simp; omega)
    refine Ev.round (fun k => ?_) (Ev.cast ih (by rw [List.length_cons, upFrom]; simp; omega))
    simp only [laws_markIntS.l0]
    have hw : wrap64 (a + 1) = a + 1 := by unfold wrap64; omega
    have hw2 : wrap64 ((pre.length : Int) + 1) = ((pre ++ [a]).length : Int) := by unfold wrap64; simp; omega
    rw [if_pos (lt_mid _ _ _), if_pos (by omega), hw, hw2, Int.toNat_natCast, List.set_append_right _ _ (Nat.le_refl _), Nat.sub_self, List.set_cons_zero]
    simp
theorem ev_markIntS (l : List Int) (a : Int) (h0 : 0 ≤ a) (h1 : a + l.length ≤ 4611686018427387904) : Ev (fun k => laws_markIntS.f k l a) (a + l.length, upFrom a l.length) := ev_markIntS_l l [] a h0 h1 (by simp; omega)
theorem ev_heldIntS_l : ∀ (n : Nat) (pre : List Int) (a : Int), 0 ≤ a → a + n ≤ 4611686018427387904 → pre.length + n ≤ 4611686018427387904 → Ev (fun k => laws_heldIntS.l0 k (pre ++ upFrom a n) a (pre.length : Int)) (a + n)
  | 0, pre, a, h0, h1, h2 => by
    refine Ev.round (f := fun _ => some a) (fun k => ?_) (Ev.cast (Ev.now _) (by simp))
    simp only [laws_heldIntS.l0]
    rw [if_neg (by simp [upFrom])]
  | n + 1, pre, a, h0, h1, h2 => by
    have ih := ev_heldIntS_l n (pre ++ [a]) (a + 1) (by omega) (by omega) (by simp; omega)
    refine Ev.round (fun k => ?_) (Ev.cast ih (by omega))
    rw [upFrom]
    simp only [laws_heldIntS.l0]
    have hw : wrap64 (a + 1) = a + 1 := by unfold wrap64; omega
    have hw2 : wrap64 ((pre.length : Int) + 1) = ((pre ++ [a]).length : Int) := by unfold wrap64; simp; omega
    rw [if_pos (lt_mid _ _ _), if_pos (by omega), rd_mid, if_pos rfl, hw, hw2]
    simp
theorem ev_heldIntS (a : Int) (n : Nat) (h0 : 0 ≤ a) (h1 : a + n ≤ 4611686018427387904) : Ev (fun k => laws_heldIntS.f k (upFrom a n) a) (a + n) := ev_heldIntS_l n [] a h0 h1 (by simp; omega)
theorem szIntS_eq (l : List Int) (a : Int) : laws_szIntS.f l a = some (if wrap64 (a - (l.length : Int)) < 0 then -1 else wrap64 (a - (l.length : Int))) := by
  unfold laws_szIntS.f
  split <;> rfl
/-- From a place on no good stands where one stood before: pre is what lies ahead. -/
def noTwice : List Int → List Int → Bool
  | _, [] => true
  | pre, x :: suf => (decide (x = 0) || !decide (x ∈ pre)) && noTwice (pre ++ [x]) suf
def goodSpots (l : List Int) : Bool := (decide (2 ≤ (l.length : Int)) && decide ((l.length : Int) ≤ 9)) && (decide ((0 : Int) ∈ l) && (allIn l 0 20 && noTwice [] l))
theorem take_mid {α : Type} (pre suf : List α) : (pre ++ suf).take (pre.length : Int).toNat = pre := by
  rw [Int.toNat_natCast, List.take_left]
theorem ev_GoodSpots_l (l : List Int) (hn : l.length ≤ 9223372036854775807) (h0 : ∀ x ∈ l, 0 ≤ x) : ∀ (suf pre : List Int), l = pre ++ suf → Ev (fun k => spec_GoodSpots.l0 k l l (l.length : Int) (pre.length : Int)) (noTwice pre suf)
  | [], pre, e => by
    subst e
    refine Ev.round (f := fun _ => some true) (fun k => ?_) (Ev.now _)
    simp only [spec_GoodSpots.l0]
    rw [if_neg (by simp)]
  | x :: suf, pre, e => by
    subst e
    have ih := ev_GoodSpots_l (pre ++ x :: suf) hn h0 suf (pre ++ [x]) (snoc_mid _ _ _)
    have hx := h0 x (by simp)
    have hg := lt_mid pre suf x
    by_cases c : x = 0
    · refine Ev.round (fun k => ?_) (Ev.cast ih (by simp [noTwice, c]))
      simp only [spec_GoodSpots.l0]
      rw [if_pos hg, if_pos (by omega), if_pos hg, rd_mid, if_neg (by omega), up_mid _ _ _ hn]
    · by_cases m : x ∈ pre
      · refine Ev.round (fun k => ?_) (Ev.bind (ev_l1Has pre x (by simp at hn; omega)) (f := fun k t => if t = true then some false else spec_GoodSpots.l0 k (pre ++ x :: suf) (pre ++ x :: suf) ((pre ++ x :: suf).length : Int) (wrap64 ((pre.length : Int) + 1))) ?_)
        · simp only [spec_GoodSpots.l0]
          rw [if_pos hg, if_pos (by omega), if_pos hg, rd_mid, if_pos (by omega), if_pos (by omega), take_mid]
        · exact Ev.ite_pos (by simpa using m) (Ev.cast (Ev.now _) (by simp [noTwice, c, m]))
      · refine Ev.round (fun k => ?_) (Ev.bind (ev_l1Has pre x (by simp at hn; omega)) (f := fun k t => if t = true then some false else spec_GoodSpots.l0 k (pre ++ x :: suf) (pre ++ x :: suf) ((pre ++ x :: suf).length : Int) (wrap64 ((pre.length : Int) + 1))) ?_)
        · simp only [spec_GoodSpots.l0]
          rw [if_pos hg, if_pos (by omega), if_pos hg, rd_mid, if_pos (by omega), if_pos (by omega), take_mid]
        · refine Ev.ite_neg (by simpa using m) ?_
          rw [up_mid _ _ _ hn]
          exact Ev.cast ih (by simp [noTwice, c, m])
theorem ev_GoodSpots (l : List Int) (hn : l.length ≤ 9223372036854775807) : Ev (fun k => spec_GoodSpots.f k l) (goodSpots l) := by
  unfold spec_GoodSpots.f
  refine Ev.bindc (in_eq _ _ _) ?_
  by_cases h1 : (decide (2 ≤ (l.length : Int)) && decide ((l.length : Int) ≤ 9)) = true
  · refine Ev.ite_pos h1 (Ev.bind (ev_l1Has l 0 hn) ?_)
    by_cases h2 : (0 : Int) ∈ l
    · refine Ev.ite_pos (by simpa using h2) (Ev.bind (ev_l1All l 0 20 hn) ?_)
      refine Ev.round (fun k => by simp only [spec_GoodSpots.j0]; rfl) ?_
      cases h3 : allIn l 0 20 with
      | true =>
        refine Ev.ite_neg (by simp) (Ev.cast (ev_GoodSpots_l l hn (fun x hx => (allIn_iff.1 h3 x hx).1) l [] rfl) ?_)
        simp only [goodSpots, h1, h2, h3]
        simp
      | false =>
        refine Ev.ite_pos (by simp) (Ev.cast (Ev.now _) ?_)
        simp [goodSpots, h3]
    · refine Ev.ite_neg (by simpa using h2) ?_
      refine Ev.round (fun k => by simp only [spec_GoodSpots.j0]; rfl) ?_
      refine Ev.ite_pos (by trivial) (Ev.cast (Ev.now _) ?_)
      simp [goodSpots, h2]
  · refine Ev.ite_neg h1 ?_
    refine Ev.round (fun k => by simp only [spec_GoodSpots.j0]; rfl) ?_
    refine Ev.ite_pos (by trivial) (Ev.cast (Ev.now _) ?_)
    unfold goodSpots
    rw [Bool.eq_false_iff.2 h1]
    rfl
theorem ev_implGoodSpots_l (l : List Int) (hn : l.length ≤ 9223372036854775807) : ∀ (suf pre : List Int), l = pre ++ suf →
    Ev (fun k => impl_GoodSpots.l0 k l l (l.length : Int) (pre.length : Int)) (noTwice pre suf && ((decide (2 ≤ (l.length : Int)) && decide ((l.length : Int) ≤ 9)) && (allIn l 0 20 && decide ((0 : Int) ∈ l))))
  | [], pre, e => by
    refine Ev.round (f := fun k => (impl_within.f (l.length : Int) 2 9).bind fun t => if t = true then ((impl_allWithin.f l 0 20).bind fun t => if t = true then ((slices_Contains_int_int.f k l 0).bind fun t => some t) else some false) else some false) (fun k => ?_) ?_
    · simp only [impl_GoodSpots.l0]
      rw [if_neg (by subst e; simp)]
    · refine Ev.bindc (within_eq _ _ _) ?_
      by_cases h1 : (decide (2 ≤ (l.length : Int)) && decide ((l.length : Int) ≤ 9)) = true
      · refine Ev.ite_pos h1 (Ev.bindc (allWithin_eq _ _ _) ?_)
        cases h3 : allIn l 0 20 with
        | true => exact Ev.ite_pos rfl (Ev.bind (ev_Contains l 0 hn) (Ev.cast (Ev.now _) (by simp [noTwice, h1])))
        | false => exact Ev.ite_neg (by simp) (Ev.cast (Ev.now _) (by simp))
      · refine Ev.ite_neg h1 (Ev.cast (Ev.now _) ?_)
        rw [Bool.eq_false_iff.2 h1]
        simp
  | x :: suf, pre, e => by
    subst e
    have ih := ev_implGoodSpots_l (pre ++ x :: suf) hn suf (pre ++ [x]) (snoc_mid _ _ _)
    have hg := lt_mid pre suf x
    by_cases c : x = 0
    · refine Ev.round (fun k => ?_) (Ev.cast ih (by simp [noTwice, c]))
      simp only [impl_GoodSpots.l0]
      rw [if_pos hg, if_pos (by omega), if_pos hg, rd_mid, if_pos c, up_mid _ _ _ hn]
    · refine Ev.round (fun k => ?_) (Ev.bind (ev_Contains pre x (by simp at hn; omega)) (f := fun k t => if t = true then some false else impl_GoodSpots.l0 k (pre ++ x :: suf) (pre ++ x :: suf) ((pre ++ x :: suf).length : Int) (wrap64 ((pre.length : Int) + 1))) ?_)
      · simp only [impl_GoodSpots.l0]
        rw [if_pos hg, if_pos (by omega), if_pos hg, rd_mid, if_neg c, if_pos (by omega), take_mid]
      · by_cases m : x ∈ pre
        · exact Ev.ite_pos (by simpa using m) (Ev.cast (Ev.now _) (by simp [noTwice, c, m]))
        · refine Ev.ite_neg (by simpa using m) ?_
          rw [up_mid _ _ _ hn]
          exact Ev.cast ih (by simp [noTwice, c, m])
theorem ev_implGoodSpots (l : List Int) (hn : l.length ≤ 9223372036854775807) : Ev (fun k => impl_GoodSpots.f k l) (goodSpots l) := by
  refine Ev.cast (ev_implGoodSpots_l l hn l [] rfl) ?_
  unfold goodSpots
  generalize (decide (2 ≤ (l.length : Int)) && decide ((l.length : Int) ≤ 9)) = a
  generalize decide ((0 : Int) ∈ l) = b
  generalize allIn l 0 20 = c
  generalize noTwice [] l = d
  cases a <;> cases b <;> cases c <;> cases d <;> rfl
theorem rdM_mid (pre suf : List S39) (x : S39) : rd_T39 (pre ++ x :: suf) (pre.length : Int) = x := getD_mid z39 pre suf x
def doM (l : List Int) (a b : Int) : Option (List Int) := if ((0 ≤ a ∧ a < (l.length : Int)) ∧ (0 ≤ b ∧ b < (l.length : Int))) ∧ ¬ rd l a = 0 ∧ rd l b = 0 then some ((l.set a.toNat 0).set b.toNat (rd l a)) else none
theorem doM_length {l l' : List Int} {a b : Int} (h : doM l a b = some l') : l'.length = l.length := by
  unfold doM at h
  split at h
  · obtain rfl := Option.some.inj h
    simp
  · cases h
def doZ (l : List Int) (a b : Int) : Bool × List Int := match doM l a b with
  | some l' => (true, l')
  | none => (false, l)
theorem l10Do_eq (l : List Int) (a b : Int) : spec_l10Do.f l a b = some (doZ l a b) := by
  unfold spec_l10Do.f doZ doM
  by_cases c : ((0 ≤ a ∧ a < (l.length : Int)) ∧ (0 ≤ b ∧ b < (l.length : Int))) ∧ ¬ rd l a = 0 ∧ rd l b = 0
  · rw [if_pos c]
    obtain ⟨⟨⟨h1, h2⟩, h3, h4⟩, h5, h6⟩ := c
    have hne : a.toNat ≠ b.toNat := fun e => h5 (by rw [show a = b by omega]; exact h6)
    rw [if_neg (by omega), if_neg (by omega), if_neg (by omega), if_neg (by omega), if_pos h1, if_pos h2, if_neg h5, if_pos h3, if_pos h4, if_pos h6, List.set_comm _ _ hne.symm]
  · rw [if_neg c]
    by_cases h1 : a < 0
    · rw [if_pos h1]
    rw [if_neg h1]
    by_cases h2 : a ≥ (l.length : Int)
    · rw [if_pos h2]
    rw [if_neg h2]
    by_cases h3 : b < 0
    · rw [if_pos h3]
    rw [if_neg h3]
    by_cases h4 : b ≥ (l.length : Int)
    · rw [if_pos h4]
    rw [if_neg h4, if_pos (by omega), if_pos (by omega)]
    by_cases h5 : rd l a = 0
    · rw [if_pos h5]
    rw [if_neg h5, if_pos (by omega), if_pos (by omega)]
    by_cases h6 : rd l b = 0
    · exact absurd ⟨⟨⟨by omega, by omega⟩, by omega, by omega⟩, h5, h6⟩ c
    rw [if_neg h6]
def movedZ (l : List Int) (a b : Int) : List Int × Bool := match doM l a b with
  | some l' => (l', true)
  | none => ([], false)
theorem moved_eq (l : List Int) (a b : Int) (hl : l.length < 17592186044416) : impl_moved.f l a b = some (movedZ l a b) := by
  unfold impl_moved.f movedZ doM
  rw [if_pos (by first | exact hl | omega)]
  split <;> rfl
def doAll : List Int → List S39 → Option (List Int)
  | l, [] => some l
  | l, m :: ms => match doM l m.f0 m.f1 with
    | some l' => doAll l' ms
    | none => none
def allZ (l : List Int) (ms : List S39) : List Int × Bool := match doAll l ms with
  | some l' => (l', true)
  | none => ([], false)
theorem allZ_length (l : List Int) (ms : List S39) : (allZ l ms).1.length ≤ l.length := by
  unfold allZ
  have : ∀ (ms : List S39) (l l' : List Int), doAll l ms = some l' → l'.length = l.length := by
    intro ms
    induction ms with
    | nil => intro l l' h; obtain rfl := Option.some.inj h; rfl
    | cons m ms ih =>
      intro l l' h
      rw [doAll] at h
      cases hd : doM l m.f0 m.f1 with
      | none => rw [hd] at h; cases h
      | some l2 => rw [hd] at h; rw [ih l2 l' h, doM_length hd]
  cases h : doAll l ms with
  | none => simp
  | some l' => rw [this ms l l' h]; exact Nat.le_refl _
def movesZ (l : List Int) (ms : List S39) : List Int × Bool := if goodSpots l = true ∧ ms.length ≤ 20 then allZ l ms else ([], false)
theorem goodSpots_length {l : List Int} (h : goodSpots l = true) : l.length ≤ 9 := by
  unfold goodSpots at h
  rw [Bool.and_eq_true, Bool.and_eq_true, decide_eq_true_eq, decide_eq_true_eq] at h
  omega
theorem ev_implDo_l (ms : List S39) (hn : ms.length ≤ 9223372036854775807) : ∀ (suf pre : List S39) (l : List Int), l.length ≤ 9 → ms = pre ++ suf → Ev (fun k => impl_DoMoves.l0 k l ms (ms.length : Int) (pre.length : Int)) (allZ l suf)
  | [], pre, l, hl, e => by
    refine Ev.round (f := fun _ => some (l, true)) (fun k => ?_) (Ev.now _)
    simp only [impl_DoMoves.l0]
    rw [if_neg (by rw [e]; simp)]
  | x :: suf, pre, l, hl, e => by
    have h1 : (pre.length : Int) < (ms.length : Int) := by rw [e]; exact lt_mid _ _ _
    have h2 : rd_T39 ms (pre.length : Int) = x := by rw [e]; exact rdM_mid _ _ _
    have h3 : wrap64 ((pre.length : Int) + 1) = ((pre ++ [x]).length : Int) := by
      have : pre.length + 1 ≤ ms.length := by omega
      rw [List.length_append, List.length_singleton]; unfold wrap64; omega
    cases hd : doM l x.f0 x.f1 with
    | none =>
      refine Ev.round (f := fun _ => some ([], false)) (fun k => ?_) (Ev.cast (Ev.now _) (by unfold allZ; rw [doAll, hd]))
      simp only [impl_DoMoves.l0]
      rw [if_pos h1, if_pos (by omega), if_pos h1, h2, moved_eq _ _ _ (by omega), Option.bind_some]
      unfold movedZ
      rw [hd]
      rfl
    | some l' =>
      have ih := ev_implDo_l ms hn suf (pre ++ [x]) l' (by rw [doM_length hd]; exact hl) (by rw [e]; simp)
      refine Ev.round (fun k => ?_) (Ev.cast ih (by unfold allZ; rw [doAll, hd]))
      simp only [impl_DoMoves.l0]
      rw [if_pos h1, if_pos (by omega), if_pos h1, h2, moved_eq _ _ _ (by omega), Option.bind_some, h3]
      unfold movedZ
      rw [hd]
      rfl
theorem ev_implDoMoves (l : List Int) (ms : List S39) (hl : l.length ≤ 9223372036854775807) (hn : ms.length ≤ 9223372036854775807) : Ev (fun k => impl_DoMoves.f k l ms) (movesZ l ms) := by
  unfold impl_DoMoves.f movesZ
  refine Ev.bind (ev_implGoodSpots l hl) ?_
  by_cases c : goodSpots l = true
  · refine Ev.ite_pos c ?_
    by_cases d : ms.length ≤ 20
    · rw [if_pos ⟨c, d⟩]
      have hg := goodSpots_length c
      refine Ev.round (fun k => ?_) (ev_implDo_l ms hn ms [] l hg rfl)
      simp only [impl_DoMoves.j0]
      unfold slices_Clone_int_int.f
      rw [if_neg (by simp; omega), if_pos (by omega), Option.bind_some]
      rfl
    · rw [if_neg (fun h => d h.2)]
      refine Ev.round (f := fun _ => some ([], false)) (fun k => ?_) (Ev.now _)
      simp only [impl_DoMoves.j0]
      rw [if_pos (by simp; omega)]
  · rw [if_neg (fun h => c h.1)]
    refine Ev.ite_neg c ?_
    refine Ev.round (f := fun _ => some ([], false)) (fun k => ?_) (Ev.now _)
    simp [impl_DoMoves.j0]
def toM (x : S36) : S39 := ⟨x.f0, x.f1⟩
theorem rdW_mid (pre suf : List S36) (x : S36) : rd_T36 (pre ++ x :: suf) (pre.length : Int) = x := getD_mid z36 pre suf x
theorem ev_toMoveS_l (l : List S36) (hn : l.length ≤ 17592186044416) : ∀ (suf pre : List S36), l = pre ++ suf → ∀ (z : List S39), z.length = suf.length → Ev (fun k => laws_toMoveS.l0 k l (pre.map toM ++ z) (pre.length : Int)) (l.map toM)
  | [], pre, e, z, hz => by
    have : z = [] := List.length_eq_zero_iff.1 hz
    subst this
    refine Ev.round (f := fun _ => some (pre.map toM ++ [])) (fun k => ?_) (Ev.cast (Ev.now _) (by rw [e]; simp))
    simp only [laws_toMoveS.l0]
    rw [if_neg (by rw [e]; simp)]
  | x :: suf, pre, e, [], hz => by simp at hz
  | x :: suf, pre, e, y :: z, hz => by
    have ih := ev_toMoveS_l l hn suf (pre ++ [x]) (by rw [e]; simp) z (by simpa using hz)
    have h1 : (pre.length : Int) < (l.length : Int) := by rw [e]; exact lt_mid _ _ _
    have h2 : rd_T36 l (pre.length : Int) = x := by rw [e]; exact rdW_mid _ _ _
    have h3 : wrap64 ((pre.length : Int) + 1) = ((pre ++ [x]).length : Int) := by rw [List.length_append, List.length_singleton]; unfold wrap64; omega
    refine Ev.round (fun k => ?_) ih
    simp only [laws_toMoveS.l0]
    unfold laws_toMove.f
    rw [if_pos h1, if_pos (by omega), h2, Option.bind_some, if_pos (by simp; omega), h3]
    congr 1
    rw [Int.toNat_natCast, List.set_append_right _ _ (by simp)]
    simp [toM]
theorem ev_toMoveS (l : List S36) (hn : l.length ≤ 17592186044416) : Ev (fun k => laws_toMoveS.f k l) (l.map toM) := by
  refine Ev.eqv (fun k => ?_) (ev_toMoveS_l l hn l [] rfl (List.replicate l.length z39) (by simp))
  unfold laws_toMoveS.f
  rw [if_pos (by omega), Int.toNat_natCast, if_pos hn]
  rfl
theorem ev_eqMoveS_l (a : List S39) (hn : a.length ≤ 9223372036854775807) : ∀ (sa pa : List S39), a = pa ++ sa → Ev (fun k => laws_eqMoveS.l0 k a a (pa.length : Int)) true
  | [], pa, e => by
    refine Ev.round (f := fun _ => some true) (fun k => ?_) (Ev.now _)
    simp only [laws_eqMoveS.l0]
    rw [if_neg (by rw [e]; simp)]
  | x :: sa, pa, e => by
    have ih := ev_eqMoveS_l a hn sa (pa ++ [x]) (by rw [e]; simp)
    have h1 : (pa.length : Int) < (a.length : Int) := by rw [e]; exact lt_mid _ _ _
    have h3 : wrap64 ((pa.length : Int) + 1) = ((pa ++ [x]).length : Int) := by
      have : pa.length + 1 ≤ a.length := by omega
      rw [List.length_append, List.length_singleton]; unfold wrap64; omega
    refine Ev.round (fun k => ?_) ih
    simp only [laws_eqMoveS.l0]
    unfold laws_eqMove.f
    rw [if_pos h1, if_pos (by omega), if_pos h1, if_pos rfl, if_pos rfl, Option.bind_some, if_pos rfl, h3]
theorem ev_eqMoveS (a : List S39) (hn : a.length ≤ 9223372036854775807) : Ev (fun k => laws_eqMoveS.f k a a) true := by
  unfold laws_eqMoveS.f
  exact Ev.ite_pos rfl (ev_eqMoveS_l a hn a [] rfl)
theorem ev_markMoveS_l : ∀ (n : Nat) (l : List S39) (j : Nat) (a : Int), j + n = l.length → l.length ≤ 4611686018427387904 → 0 ≤ a → a + 2 * n ≤ 4611686018427387904 → ∃ l', Ev (fun k => laws_markMoveS.l0 k l a (j : Int)) (a + 2 * n, l')
  | 0, l, j, a, hj, hl, h0, h9 => by
    refine ⟨l, Ev.round (f := fun _ => some (a, l)) (fun k => ?_) (Ev.cast (Ev.now _) (by simp))⟩
    simp only [laws_markMoveS.l0]
    rw [if_neg (by omega)]
  | n + 1, l, j, a, hj, hl, h0, h9 => by
    have w1 : wrap64 (a + 1) = a + 1 := by unfold wrap64; omega
    have w2 : wrap64 (a + 1 + 1) = a + 2 := by unfold wrap64; omega
    have w3 : wrap64 ((j : Int) + 1) = ((j + 1 : Nat) : Int) := by unfold wrap64; omega
    obtain ⟨l', h⟩ := ev_markMoveS_l n ((l.set (j : Int).toNat (⟨a, (rd_T39 l (j : Int)).f1⟩ : S39)).set (j : Int).toNat (⟨(rd_T39 (l.set (j : Int).toNat (⟨a, (rd_T39 l (j : Int)).f1⟩ : S39)) (j : Int)).f0, a + 1⟩ : S39)) (j + 1) (a + 2) (by simp; omega) (by simpa using hl) (by omega) (by omega)
    refine ⟨l', Ev.round (fun k => ?_) (Ev.cast h (by congr 1; omega))⟩
    simp only [laws_markMoveS.l0]
    rw [if_pos (by omega), if_pos (by omega), Option.bind_some, w1, w2, w3]
theorem ev_markMoveS (l : List S39) (a : Int) (hl : l.length ≤ 1048576) (h0 : 0 ≤ a) (h9 : a ≤ 1073741824) : ∃ l', Ev (fun k => laws_markMoveS.f k l a) (a + 2 * l.length, l') := by
  obtain ⟨l', h⟩ := ev_markMoveS_l l.length l 0 a (by omega) (by omega) h0 (by omega)
  exact ⟨l', h⟩
theorem sortI_of_perm {a b : List Int} (h : a.Perm b) : sortI a = sortI b := by
  have hs : ∀ l : List Int, (sortI l).Pairwise (· ≤ ·) := fun l => by
    have h := List.pairwise_mergeSort (le := fun x y : Int => decide (x ≤ y)) (fun a b c h1 h2 => by rw [decide_eq_true_eq] at h1 h2 ⊢; omega) (fun a b => by rw [Bool.or_eq_true, decide_eq_true_eq, decide_eq_true_eq]; omega) l
    exact h.imp (fun h => of_decide_eq_true h)
  exact List.Perm.eq_of_pairwise (fun x y _ _ h1 h2 => by omega) (hs a) (hs b) (((List.mergeSort_perm a _).trans h).trans (List.mergeSort_perm b _).symm)
theorem sortI_iff {a b : List Int} : sortI a = sortI b ↔ a.Perm b :=
  ⟨fun h => (List.mergeSort_perm a (fun x y => decide (x ≤ y))).symm.trans ((show (a.mergeSort fun x y => decide (x ≤ y)) = (b.mergeSort fun x y => decide (x ≤ y)) from h) ▸ List.mergeSort_perm b (fun x y => decide (x ≤ y))), sortI_of_perm⟩
theorem nodup_perm : ∀ {a b : List Int}, a.Nodup → b.Nodup → (∀ x, x ∈ a ↔ x ∈ b) → a.Perm b
  | [], b, _, _, h => by
    cases b with
    | nil => exact List.Perm.refl _
    | cons y b => have := (h y).2 (by simp); cases this
  | x :: a, b, ha, hb, h => by
    have hx : x ∈ b := (h x).1 (by simp)
    rw [List.nodup_cons] at ha
    refine (List.Perm.cons x (nodup_perm ha.2 (hb.erase x) (fun y => ?_))).trans (List.perm_cons_erase hx).symm
    rw [hb.mem_erase_iff]
    constructor
    · exact fun hy => ⟨fun e => ha.1 (e ▸ hy), (h y).1 (by simp [hy])⟩
    · rintro ⟨h1, h2⟩
      rcases List.mem_cons.1 ((h y).2 h2) with e | e
      · exact absurd e h1
      · exact e
theorem noTwice_iff : ∀ (l pre : List Int), noTwice pre l = true → (∀ x ∈ l, x ≠ 0 → ¬ x ∈ pre) ∧ (l.filter fun x => decide (x ≠ 0)).Nodup
  | [], _, _ => by simp
  | x :: l, pre, h => by
    rw [noTwice, Bool.and_eq_true, Bool.or_eq_true, decide_eq_true_eq, Bool.not_eq_true', decide_eq_false_iff_not] at h
    obtain ⟨h1, h2⟩ := noTwice_iff l (pre ++ [x]) h.2
    refine ⟨fun y hy hy0 => ?_, ?_⟩
    · rcases List.mem_cons.1 hy with rfl | hy
      · rcases h.1 with h | h
        · exact absurd h hy0
        · exact h
      · exact fun hp => h1 y hy hy0 (by simp [hp])
    · rw [List.filter_cons]
      split
      · refine List.nodup_cons.2 ⟨fun hx => ?_, h2⟩
        rw [List.mem_filter] at hx
        exact h1 x hx.1 (by simpa using hx.2) (by simp)
      · exact h2
/-- Two good lists are alike just where they are as long and have the same members. -/
theorem alike_iff {a b : List Int} (ha : noTwice [] a = true) (hb : noTwice [] b = true) (hl : a.length = b.length) (h : ∀ x, x ∈ a ↔ x ∈ b) : a.Perm b := by
  have ga := (noTwice_iff a [] ha).2
  have gb := (noTwice_iff b [] hb).2
  have hf := nodup_perm ga gb (fun x => by rw [List.mem_filter, List.mem_filter, h])
  have key : ∀ l : List Int, l.Perm ((l.filter fun x => decide (x ≠ 0)) ++ List.replicate (l.length - (l.filter fun x => decide (x ≠ 0)).length) 0) := fun l => by
    have hp := List.filter_append_perm (fun x : Int => decide (x ≠ 0)) l
    have hlen := hp.length_eq
    rw [List.length_append] at hlen
    have e : (l.filter fun x => !decide (x ≠ 0)) = List.replicate (l.length - (l.filter fun x => decide (x ≠ 0)).length) 0 := by
      rw [List.eq_replicate_iff]
      refine ⟨by omega, fun y hy => ?_⟩
      rw [List.mem_filter] at hy
      simpa using hy.2
    rw [← e]
    exact hp.symm
  refine (key a).trans (List.Perm.trans ?_ (key b).symm)
  rw [hf.length_eq, hl]
  exact hf.append_right _
def alikeB (a b : List Int) : Bool := goodSpots a && (goodSpots b && decide (sortI a = sortI b))
theorem ev_areAlike (a b : List Int) (ha : a.length ≤ 1048576) (hb : b.length ≤ 1048576) : Ev (fun k => impl_areAlike.f k a b) (alikeB a b) := by
  unfold impl_areAlike.f alikeB
  refine Ev.bind (ev_implGoodSpots a (by omega)) ?_
  cases h1 : goodSpots a with
  | false => exact Ev.ite_neg (by decide) (Ev.now _)
  | true =>
    refine Ev.ite_pos rfl (Ev.bind (ev_implGoodSpots b (by omega)) ?_)
    cases h2 : goodSpots b with
    | false => exact Ev.ite_neg (by decide) (Ev.now _)
    | true => exact Ev.ite_pos rfl (Ev.ite_pos (by omega) (Ev.cast (ev_Equal (sortI a) (sortI b) (by rw [sortI_length]; omega)) (by simp)))
theorem ev_both1 (a b c : List Int) (hb : b.length ≤ 1048576) (ha : a.length ≤ 1048576) (hc : c.length ≤ 1048576) : ∀ (suf pre : List Int), c = pre ++ suf → Ev (fun k => spec_l10Both.l1 k a c (c.length : Int) (pre.length : Int)) (suf.all fun x => decide (x ∈ a))
  | [], pre, e => by
    subst e
    refine Ev.round (f := fun _ => some true) (fun k => ?_) (Ev.now _)
    simp only [spec_l10Both.l1]
    rw [if_neg (by simp)]
  | x :: suf, pre, e => by
    subst e
    have ih := ev_both1 a b (pre ++ x :: suf) hb ha hc suf (pre ++ [x]) (snoc_mid _ _ _)
    refine Ev.round (fun k => by simp only [spec_l10Both.l1]; rw [if_pos (lt_mid _ _ _), rd_mid, up_mid pre suf x (by omega)]) ?_
    refine Ev.ite_pos (by omega) (Ev.ite_pos (lt_mid _ _ _) (Ev.bind (ev_l1Has a x (by omega)) ?_))
    rw [List.all_cons]
    by_cases h : x ∈ a
    · rw [decide_eq_true h, Bool.true_and]
      exact Ev.ite_pos rfl ih
    · rw [decide_eq_false h, Bool.false_and]
      exact Ev.ite_neg (by decide) (Ev.now _)
theorem ev_both0 (a b : List Int) (hb : b.length ≤ 1048576) (ha : a.length ≤ 1048576) : ∀ (suf pre : List Int), a = pre ++ suf → Ev (fun k => spec_l10Both.l0 k a b a (a.length : Int) (pre.length : Int)) ((suf.all fun x => decide (x ∈ b)) && (b.all fun x => decide (x ∈ a)))
  | [], pre, e => by
    refine Ev.round (fun k => by simp only [spec_l10Both.l0]; rw [if_neg (by subst e; simp)]) ?_
    rw [List.all_nil, Bool.true_and]
    exact ev_both1 a b b hb ha hb b [] rfl
  | x :: suf, pre, e => by
    subst e
    have ih := ev_both0 (pre ++ x :: suf) b hb ha suf (pre ++ [x]) (snoc_mid _ _ _)
    refine Ev.round (fun k => by simp only [spec_l10Both.l0]; rw [if_pos (lt_mid _ _ _), rd_mid, up_mid pre suf x (by omega)]) ?_
    refine Ev.ite_pos (by omega) (Ev.ite_pos (lt_mid _ _ _) (Ev.bind (ev_l1Has b x (by omega)) ?_))
    rw [List.all_cons]
    by_cases h : x ∈ b
    · rw [decide_eq_true h, Bool.true_and]
      exact Ev.ite_pos rfl ih
    · rw [decide_eq_false h, Bool.false_and, Bool.false_and]
      exact Ev.ite_neg (by decide) (Ev.now _)
theorem good_noTwice {a : List Int} (h : goodSpots a = true) : noTwice [] a = true := by
  unfold goodSpots at h
  rw [Bool.and_eq_true, Bool.and_eq_true, Bool.and_eq_true, Bool.and_eq_true] at h
  exact h.2.2.2
theorem ev_l10Both (a b : List Int) (ha : a.length ≤ 1048576) (hb : b.length ≤ 1048576) : Ev (fun k => spec_l10Both.f k a b) (alikeB a b) := by
  unfold spec_l10Both.f alikeB
  refine Ev.bind (ev_GoodSpots a (by omega)) ?_
  cases h1 : goodSpots a with
  | false => exact Ev.ite_neg (by decide) (Ev.round (f := fun _ => some false) (fun k => by simp only [spec_l10Both.j0]; rw [if_pos trivial]) (Ev.now _))
  | true =>
    refine Ev.ite_pos rfl (Ev.bind (ev_GoodSpots b (by omega)) ?_)
    cases h2 : goodSpots b with
    | false => exact Ev.ite_neg (by decide) (Ev.round (f := fun _ => some false) (fun k => by simp only [spec_l10Both.j0]; rw [if_pos trivial]) (Ev.now _))
    | true =>
      refine Ev.ite_pos rfl ?_
      by_cases hl : a.length = b.length
      · refine Ev.round (fun k => by simp only [spec_l10Both.j0]; rw [if_neg (by simp [hl])]; rfl) (Ev.cast (ev_both0 a b hb ha a [] rfl) ?_)
        rw [Bool.true_and, Bool.true_and, Bool.eq_iff_iff, Bool.and_eq_true, List.all_eq_true, List.all_eq_true, decide_eq_true_eq, sortI_iff]
        constructor
        · rintro ⟨k1, k2⟩
          exact alike_iff (good_noTwice h1) (good_noTwice h2) hl (fun x => ⟨fun hx => by simpa using k1 x hx, fun hx => by simpa using k2 x hx⟩)
        · intro hp
          exact ⟨fun x hx => by simpa using hp.mem_iff.1 hx, fun x hx => by simpa using hp.mem_iff.2 hx⟩
      · refine Ev.round (f := fun _ => some false) (fun k => by simp only [spec_l10Both.j0]; rw [if_pos (by simp; omega)]) (Ev.cast (Ev.now _) ?_)
        rw [Bool.true_and, Bool.true_and, eq_comm, decide_eq_false_iff_not, sortI_iff]
        exact fun hp => hl hp.length_eq
def swM (m : S39) : S39 := ⟨m.f1, m.f0⟩
theorem ev_l16Run_l (ms : List S39) (hn : ms.length ≤ 1048576) : ∀ (suf pre : List S39) (l : List Int), ms = pre ++ suf → Ev (fun k => spec_l16Run.l0 k l ms (ms.length : Int) (pre.length : Int)) (allZ l suf)
  | [], pre, l, e => by
    refine Ev.round (f := fun _ => some (l, true)) (fun k => ?_) (Ev.now _)
    simp only [spec_l16Run.l0]
    rw [if_neg (by rw [e]; simp)]
  | x :: suf, pre, l, e => by
    have h1 : (pre.length : Int) < (ms.length : Int) := by rw [e]; exact lt_mid _ _ _
    have h2 : rd_T39 ms (pre.length : Int) = x := by rw [e]; exact rdM_mid _ _ _
    have h3 : wrap64 ((pre.length : Int) + 1) = ((pre ++ [x]).length : Int) := by
      have : pre.length + 1 ≤ ms.length := by omega
      rw [List.length_append, List.length_singleton]; unfold wrap64; omega
    cases hd : doM l x.f0 x.f1 with
    | none =>
      refine Ev.round (f := fun _ => some ([], false)) (fun k => ?_) (Ev.cast (Ev.now _) (by unfold allZ; rw [doAll, hd]))
      simp only [spec_l16Run.l0]
      rw [if_pos h1, if_pos (by omega), if_pos h1, h2, l10Do_eq, Option.bind_some]
      unfold doZ
      rw [hd]
      rfl
    | some l' =>
      have ih := ev_l16Run_l ms hn suf (pre ++ [x]) l' (by rw [e]; simp)
      refine Ev.round (fun k => ?_) (Ev.cast ih (by unfold allZ; rw [doAll, hd]))
      simp only [spec_l16Run.l0]
      rw [if_pos h1, if_pos (by omega), if_pos h1, h2, l10Do_eq, Option.bind_some, h3]
      unfold doZ
      rw [hd]
      rfl
theorem ev_l16Run (l : List Int) (ms : List S39) (hl : l.length ≤ 1048576) (hn : ms.length ≤ 1048576) : Ev (fun k => spec_l16Run.f k l ms) (allZ l ms) := by
  unfold spec_l16Run.f
  exact Ev.bindc rfl (Ev.ite_pos (by simp; omega) (ev_l16Run_l ms hn ms [] l rfl))
/-- The places from which moves lead to some. -/
def startZ (l : List Int) (ms : List S39) : List Int × Bool := allZ l (ms.reverse.map swM)
theorem ev_l16Start_l (l : List Int) (ms : List S39) (hl : l.length ≤ 1048576) (hn : ms.length ≤ 1048576) : ∀ (m : Nat) (b : List S39), m ≤ ms.length → b.length + m ≤ 1048576 → Ev (fun k => spec_l16Start.l0 k l ms b ((m : Int) - 1)) (allZ l (b ++ (ms.take m).reverse.map swM))
  | 0, b, hm, hb => by
    refine Ev.round (fun k => by simp only [spec_l16Start.l0]; rw [if_neg (by omega)]) ?_
    have h := ev_l16Run l b hl (by omega)
    refine Ev.bind h (Ev.cast (Ev.now _) (by simp))
  | m + 1, b, hm, hb => by
    have hw : wrap64 (((m + 1 : Nat) : Int) - 1 - 1) = (m : Int) - 1 := by unfold wrap64; omega
    have ih := ev_l16Start_l l ms hl hn m (b ++ [swM (rd_T39 ms (m : Int))]) (by omega) (by simp; omega)
    have e : b ++ (ms.take (m + 1)).reverse.map swM = b ++ [swM (rd_T39 ms (m : Int))] ++ (ms.take m).reverse.map swM := by
      rw [List.take_succ_eq_append_getElem (by omega), List.reverse_append, List.reverse_singleton, List.map_append, List.append_assoc]
      congr 2
      show [swM ms[m]] = [swM (ms.getD (m : Int).toNat _)]
      rw [Int.toNat_natCast, List.getD_eq_getElem?_getD, List.getElem?_eq_getElem (by omega)]
      rfl
    rw [e]
    refine Ev.round (fun k => by simp only [spec_l16Start.l0]; rw [if_pos (show ((m + 1 : Nat) : Int) - 1 ≥ 0 by omega), hw]) ?_
    refine Ev.ite_pos (by omega) (Ev.ite_pos (by omega) (Ev.ite_pos (by omega) ?_))
    rw [show ((m + 1 : Nat) : Int) - 1 = (m : Int) by omega]
    exact ih
theorem ev_l16Start (l : List Int) (ms : List S39) (hl : l.length ≤ 1048576) (hn : ms.length ≤ 1048576) : Ev (fun k => spec_l16Start.f k l ms) (startZ l ms) := by
  have h := ev_l16Start_l l ms hl hn ms.length [] (Nat.le_refl _) (by simpa using hn)
  unfold spec_l16Start.f
  rw [show wrap64 ((ms.length : Int) - 1) = (ms.length : Int) - 1 by unfold wrap64; omega]
  refine Ev.cast h ?_
  unfold startZ
  rw [List.take_length, List.nil_append]
theorem start_go : ∀ (ms : List S39) (l : List Int), l.length < 17592186044416 → impl_start.go l ms = doAll l (ms.map swM)
  | [], _, _ => rfl
  | m :: ms, l, hl => by
    show (match impl_moved.f l m.f1 m.f0 with | some (l', true) => impl_start.go l' ms | _ => none) = _
    rw [moved_eq l m.f1 m.f0 hl, List.map_cons, doAll]
    unfold movedZ
    show _ = (match doM l m.f1 m.f0 with | some l' => doAll l' (ms.map swM) | none => none)
    cases hd : doM l m.f1 m.f0 with
    | none => rfl
    | some l' => exact start_go ms l' (by rw [doM_length hd]; exact hl)
theorem impl_start_eq (l : List Int) (ms : List S39) (hl : l.length ≤ 1048576) : impl_start.f l ms = some (startZ l ms) := by
  unfold impl_start.f slices_Clone_int_int.f startZ allZ
  rw [if_pos (by omega), Option.bind_some, start_go _ _ (by omega)]
  cases doAll l (ms.reverse.map swM) <;> rfl
def jobB (a b : List Int) (lf mv : List S39) (n : Int) : Bool := alikeB a b && (decide (lf.length ≤ 20) && (decide (mv.length ≤ 60) && ((decide (0 ≤ n) && decide (n ≤ 60)) && ((allZ a lf).2 && ((startZ a mv).2 && (decide (lf.length = 0) || decide ((allZ a lf).1 = b)))))))
theorem alike_good {a b : List Int} (h : alikeB a b = true) : goodSpots a = true := by
  unfold alikeB at h
  rw [Bool.and_eq_true] at h
  exact h.1
theorem ev_specGoodJob (a b : List Int) (lf mv : List S39) (n : Int) (ha : a.length ≤ 1048576) (hb : b.length ≤ 1048576) (hl : lf.length ≤ 1048576) (hm : mv.length ≤ 1048576) : Ev (fun k => spec_GoodJob.f k a b lf mv n) (jobB a b lf mv n) := by
  have hf : Ev (fun k => spec_GoodJob.j0 k true a b lf mv n) false := Ev.round (f := fun _ => some false) (fun k => by simp only [spec_GoodJob.j0]; rw [if_pos trivial]) (Ev.now _)
  unfold spec_GoodJob.f
  refine Ev.bind (ev_l10Both a b ha hb) ?_
  by_cases h : alikeB a b = true
  · refine Ev.ite_pos h ?_
    by_cases h2 : (lf.length : Int) > 20
    · exact Ev.ite_pos h2 (Ev.cast hf (by unfold jobB; rw [h, decide_eq_false (show ¬ lf.length ≤ 20 by omega)]; rfl))
    refine Ev.ite_neg h2 ?_
    by_cases h3 : (mv.length : Int) > 60
    · exact Ev.ite_pos h3 (Ev.cast hf (by unfold jobB; rw [h, decide_eq_true (show lf.length ≤ 20 by omega), decide_eq_false (show ¬ mv.length ≤ 60 by omega)]; rfl))
    refine Ev.ite_neg h3 (Ev.bindc (in_eq _ _ _) ?_)
    unfold jobB
    rw [h, decide_eq_true (show lf.length ≤ 20 by omega), decide_eq_true (show mv.length ≤ 60 by omega), Bool.true_and, Bool.true_and, Bool.true_and]
    cases h4 : (decide (0 ≤ n) && decide (n ≤ 60)) with
    | false => exact hf
    | true =>
      rw [Bool.true_and]
      refine Ev.round (fun k => by simp only [spec_GoodJob.j0]; rw [if_neg (by decide)]) ?_
      refine Ev.bind (ev_l16Run a lf ha hl) (Ev.bind (ev_l16Start a mv ha hm) ?_)
      cases h5 : (allZ a lf).2 with
      | false => exact Ev.ite_neg (by decide) (Ev.now _)
      | true =>
        refine Ev.ite_pos rfl ?_
        rw [Bool.true_and]
        cases h6 : (startZ a mv).2 with
        | false => exact Ev.ite_neg (by decide) (Ev.now _)
        | true =>
          refine Ev.ite_pos rfl ?_
          rw [Bool.true_and]
          by_cases h7 : (lf.length : Int) = 0
          · rw [decide_eq_true (show lf.length = 0 by omega), Bool.true_or]
            exact Ev.ite_pos h7 (Ev.now _)
          · rw [decide_eq_false (show ¬ lf.length = 0 by omega), Bool.false_or]
            have hz := allZ_length a lf
            exact Ev.ite_neg h7 (Ev.bind (ev_l1Same (allZ a lf).1 b (by omega)) (Ev.now _))
  · refine Ev.ite_neg h (Ev.cast hf ?_)
    unfold jobB
    rw [Bool.eq_false_iff.2 h]
    rfl
theorem ev_implGoodJob (a b : List Int) (lf mv : List S39) (n : Int) (ha : a.length ≤ 1048576) (hb : b.length ≤ 1048576) (hl : lf.length ≤ 1048576) (hm : mv.length ≤ 1048576) : Ev (fun k => impl_GoodJob.f k a b lf mv n) (jobB a b lf mv n) := by
  have hf : Ev (fun k => impl_GoodJob.j0 k true a b lf mv n) false := Ev.round (f := fun _ => some false) (fun k => by simp only [impl_GoodJob.j0]; rw [if_pos trivial]) (Ev.now _)
  unfold impl_GoodJob.f
  refine Ev.bind (ev_areAlike a b ha hb) ?_
  by_cases h : alikeB a b = true
  · refine Ev.ite_pos h ?_
    by_cases h3 : (mv.length : Int) > 60
    · exact Ev.ite_pos h3 (Ev.cast hf (by unfold jobB; rw [decide_eq_false (show ¬ mv.length ≤ 60 by omega)]; simp))
    refine Ev.ite_neg h3 (Ev.bindc (within_eq _ _ _) ?_)
    have hg := alike_good h
    unfold jobB
    rw [h, decide_eq_true (show mv.length ≤ 60 by omega), Bool.true_and, Bool.true_and]
    cases h4 : (decide (0 ≤ n) && decide (n ≤ 60)) with
    | false => exact Ev.cast hf (by simp)
    | true =>
      rw [Bool.true_and]
      refine Ev.round (fun k => by simp only [impl_GoodJob.j0]; rw [if_neg (by decide)]) ?_
      by_cases h7 : (lf.length : Int) > 0
      · refine Ev.ite_pos h7 (Ev.bind (ev_implDoMoves a lf (by omega) (by omega)) ?_)
        unfold movesZ
        by_cases h2 : lf.length ≤ 20
        · rw [if_pos ⟨hg, h2⟩, decide_eq_true h2, Bool.true_and, decide_eq_false (show ¬ lf.length = 0 by omega), Bool.false_or]
          cases h5 : (allZ a lf).2 with
          | false => exact Ev.ite_neg (by decide) (Ev.now _)
          | true =>
            have hz := allZ_length a lf
            refine Ev.ite_pos rfl (Ev.bind (ev_Equal (allZ a lf).1 b (by omega)) ?_)
            by_cases h8 : (allZ a lf).1 = b
            · rw [decide_eq_true h8, Bool.and_true, Bool.true_and]
              exact Ev.ite_pos rfl (Ev.bindc (impl_start_eq a mv ha) (Ev.now _))
            · rw [decide_eq_false h8, Bool.and_false, Bool.and_false]
              exact Ev.ite_neg (by decide) (Ev.now _)
        · rw [if_neg (fun hh => h2 hh.2), decide_eq_false h2, Bool.false_and]
          exact Ev.ite_neg (by decide) (Ev.now _)
      · have e : lf = [] := List.length_eq_zero_iff.1 (by omega)
        subst e
        refine Ev.ite_neg h7 (Ev.bindc (impl_start_eq a mv ha) (Ev.cast (Ev.now _) ?_))
        simp [allZ, doAll]
  · refine Ev.ite_neg h (Ev.cast hf ?_)
    unfold jobB
    rw [Bool.eq_false_iff.2 h]
    rfl
theorem startZ_length (a : List Int) (ms : List S39) : (startZ a ms).1.length ≤ a.length := allZ_length _ _
theorem szMoveS_eq (l : List S36) (a : Int) : laws_szMoveS.f l a = some (if wrap64 (a - (l.length : Int)) < 0 then -1 else wrap64 (a - (l.length : Int))) := by
  unfold laws_szMoveS.f
  split <;> rfl
theorem szJob_eq (a b : List Int) (lf mv : List S36) (n : Int) (ha : a.length ≤ 9223372036854775807) (hb : b.length ≤ 9223372036854775807) (hl : lf.length ≤ 9223372036854775807) (hm : mv.length ≤ 9223372036854775807) :
    ∃ z, laws_szJob.f a b lf mv n 1048576 = some z ∧ (z < 0 ∨ (a.length ≤ 1048576 ∧ b.length ≤ 1048576 ∧ lf.length ≤ 1048576 ∧ mv.length ≤ 1048576 ∧ (a.length : Int) + b.length + lf.length + mv.length ≤ 1048576)) := by
  have key : ∀ (x : Nat) (y : Int), x ≤ 9223372036854775807 → 0 ≤ y → y ≤ 1048576 → wrap64 (y - (x : Int)) = y - x := fun x y hx h0 h1 => by unfold wrap64; omega
  unfold laws_szJob.f
  rw [szIntS_eq, Option.bind_some, key _ _ ha (by omega) (by omega)]
  by_cases c1 : (1048576 : Int) - (a.length : Int) < 0
  · rw [if_pos c1]; exact ⟨-1, rfl, Or.inl (by omega)⟩
  rw [if_neg c1, if_neg c1, szIntS_eq, Option.bind_some, key _ _ hb (by omega) (by omega)]
  by_cases c2 : (1048576 : Int) - (a.length : Int) - (b.length : Int) < 0
  · rw [if_pos c2]; exact ⟨-1, rfl, Or.inl (by omega)⟩
  rw [if_neg c2, if_neg c2, szMoveS_eq, Option.bind_some, key _ _ hl (by omega) (by omega)]
  by_cases c3 : (1048576 : Int) - (a.length : Int) - (b.length : Int) - (lf.length : Int) < 0
  · rw [if_pos c3]; exact ⟨-1, rfl, Or.inl (by omega)⟩
  rw [if_neg c3, if_neg c3, szMoveS_eq, Option.bind_some, key _ _ hm (by omega) (by omega)]
  by_cases c4 : (1048576 : Int) - (a.length : Int) - (b.length : Int) - (lf.length : Int) - (mv.length : Int) < 0
  · rw [if_pos c4]; exact ⟨-1, rfl, Or.inl (by omega)⟩
  rw [if_neg c4, if_neg c4]
  exact ⟨_, rfl, Or.inr (by omega)⟩
theorem ev_toJob (a b : List Int) (lf mv : List S36) (n : Int) (ha : a.length ≤ 1048576) (hb : b.length ≤ 1048576) (hl : lf.length ≤ 1048576) (hm : mv.length ≤ 1048576) : Ev (fun k => laws_toJob.f k a b lf mv n) (a, b, lf.map toM, mv.map toM, n) := by
  unfold laws_toJob.f
  exact Ev.bind (ev_toIntS a (by omega)) (Ev.bind (ev_toIntS b (by omega)) (Ev.bind (ev_toMoveS lf (by omega)) (Ev.bind (ev_toMoveS mv (by omega)) (Ev.now _))))
theorem ev_eqJob (a b : List Int) (lf mv : List S39) (n : Int) (ha : a.length ≤ 1048576) (hb : b.length ≤ 1048576) (hl : lf.length ≤ 1048576) (hm : mv.length ≤ 1048576) : Ev (fun k => laws_eqJob.f k a b lf mv n a b lf mv n) true := by
  unfold laws_eqJob.f
  exact Ev.bind (ev_eqIntS a a (by omega)) (Ev.ite_pos (by simp) (Ev.bind (ev_eqIntS b b (by omega)) (Ev.ite_pos (by simp) (Ev.bind (ev_eqMoveS lf (by omega)) (Ev.ite_pos rfl (Ev.bind (ev_eqMoveS mv (by omega)) (Ev.ite_pos rfl (Ev.ite_pos rfl (Ev.now _)))))))))
theorem ev_markJob (a b : List Int) (lf mv : List S39) (n : Int) (ha : a.length ≤ 1048576) (hb : b.length ≤ 1048576) (hl : lf.length ≤ 1048576) (hm : mv.length ≤ 1048576) : ∃ x ys, 0 ≤ x ∧ Ev (fun k => laws_markJob.f k a b lf mv n 1) (x, ys) := by
  obtain ⟨l1, h1⟩ := ev_markMoveS lf (1 + (a.length : Int) + (b.length : Int)) hl (by omega) (by omega)
  obtain ⟨l2, h2⟩ := ev_markMoveS mv (1 + (a.length : Int) + (b.length : Int) + 2 * (lf.length : Int)) hm (by omega) (by omega)
  refine ⟨1 + (a.length : Int) + (b.length : Int) + 2 * (lf.length : Int) + 2 * (mv.length : Int), (upFrom 1 a.length, upFrom (1 + (a.length : Int)) b.length, l1, l2), by omega, ?_⟩
  unfold laws_markJob.f
  exact Ev.bind (ev_markIntS a 1 (by omega) (by omega)) (Ev.bind (ev_markIntS b _ (by omega) (by omega)) (Ev.bind h1 (Ev.bind h2 (Ev.now _))))
end Go.Proofs.Ytccnpnlmihcmlaa.Pure
