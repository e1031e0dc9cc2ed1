import Derived.Test.YtccnpnlmihcmlaaGLNewJob0
import Derived.Test.YtccnpnlmihcmlaaGLNewJob1
import Derived.Test.YtccnpnlmihcmlaaGLNewJob2
import Derived.Test.YtccnpnlmihcmlaaGLNewJob3
import Derived.Test.YtccnpnlmihcmlaaGLNewJob4
import Derived.Test.YtccnpnlmihcmlaaGLNewJob5
import Derived.Test.YtccnpnlmihcmlaaGLNewJob6
import Derived.Test.YtccnpnlmihcmlaaGLNewJob7
namespace Go.Proofs.Ytccnpnlmihcmlaa.Pure
open Go.RowKit Go.Proofs.Ytccnpnlmihcmlaa.GLNewJob Go.Proofs.YtccnpnlmihcmlaaW.PrintWords Go.Proofs.YtccnpnlmihcmlaaW.PrintLast Go.Proofs.YtccnpnlmihcmlaaW.PrintMore Go.Proofs.YtccnpnlmihcmlaaW.PrintOwn
set_option linter.unusedVariables false
set_option linter.unusedSimpArgs false
theorem Ev.bindc {α β : Type} {g : Option α} {f : Nat → α → Option β} {a : α} {r : β} (h : g = some a) (k : Ev (fun n => f n a) r) : Ev (fun n => g.bind (f n)) r := by
  subst h
  exact k
/-- One round. -/
theorem Ev.round {α : Type} {g f : Nat → Option α} {r : α} (h : ∀ k, g (k + 1) = f k) (k : Ev f r) : Ev g r := Ev.step h k
theorem Ev.eqv {α : Type} {g f : Nat → Option α} {r : α} (h : ∀ k, g k = f k) (k : Ev f r) : Ev g r := Ev.congr h k
theorem Ev.cast {α : Type} {g : Nat → Option α} {r r' : α} (h : Ev g r) (e : r = r') : Ev g r' := e ▸ h
theorem Ev.ite_pos {α : Type} {c : Prop} [Decidable c] {g f : Nat → Option α} {r : α} (hc : c) (k : Ev g r) : Ev (fun n => if c then g n else f n) r := by
  refine Ev.eqv (fun n => ?_) k
  rw [if_pos hc]
theorem Ev.ite_neg {α : Type} {c : Prop} [Decidable c] {g f : Nat → Option α} {r : α} (hc : ¬ c) (k : Ev f r) : Ev (fun n => if c then g n else f n) r := by
  refine Ev.eqv (fun n => ?_) k
  rw [if_neg hc]
theorem getD_mid {α : Type} (d : α) (pre suf : List α) (x : α) : (pre ++ x :: suf).getD (pre.length : Int).toNat d = x := by
  rw [Int.toNat_natCast, List.getD_eq_getElem?_getD, List.getElem?_append_right (Nat.le_refl _), Nat.sub_self]
  rfl
theorem rd_mid (pre suf : List Int) (x : Int) : rd (pre ++ x :: suf) (pre.length : Int) = x := getD_mid 0 pre suf x
theorem lt_mid {α : Type} (pre suf : List α) (x : α) : (pre.length : Int) < ((pre ++ x :: suf).length : Int) := by
  rw [List.length_append, List.length_cons]; omega
theorem up_mid {α : Type} (pre suf : List α) (x : α) (h : (pre ++ x :: suf).length ≤ 9223372036854775807) : wrap64 ((pre.length : Int) + 1) = ((pre ++ [x]).length : Int) := by
  rw [List.length_append, List.length_cons] at h
  rw [List.length_append, List.length_singleton]
  unfold wrap64
  omega
theorem snoc_mid {α : Type} (pre suf : List α) (x : α) : pre ++ x :: suf = (pre ++ [x]) ++ suf := by simp
theorem Ev.need {α β : Type} [DecidableEq α] {g : Nat → Option α} {a : α} {f : Nat → Option β} {r : β} (h : Ev g a) (k : Ev f r) : Ev (fun n => if g n = some a then f n else none) r := by
  obtain ⟨m1, h1⟩ := h
  obtain ⟨m2, h2⟩ := k
  exact ⟨max m1 m2, fun n hn => by show (if g n = some a then f n else none) = some r; rw [if_pos (h1 n (by omega))]; exact h2 n (by omega)⟩
/-- All numbers lie between two. -/
def allIn (l : List Int) (lo hi : Int) : Bool := l.all fun n => decide (lo ≤ n) && decide (n ≤ hi)
theorem allIn_iff {l : List Int} {lo hi : Int} : allIn l lo hi = true ↔ ∀ x ∈ l, lo ≤ x ∧ x ≤ hi := by
  unfold allIn
  rw [List.all_eq_true]
  simp
/-- Where a number first stands, -1 if nowhere. -/
def idxI (l : List Int) (n : Int) : Int := match l.findIdx? (fun x => x == n) with
  | some i => (i : Int)
  | none => -1
theorem idxI_nil (n : Int) : idxI [] n = -1 := rfl
theorem idxI_cons (x : Int) (l : List Int) (n : Int) : idxI (x :: l) n = if x = n then 0 else if idxI l n = -1 then -1 else idxI l n + 1 := by
  unfold idxI
  rw [List.findIdx?_cons]
  by_cases c : x = n
  · simp [c]
  · simp only [beq_iff_eq, c, if_false]
    cases h : l.findIdx? fun x => x == n with
    | none => simp
    | some i =>
      have : ¬ ((i : Int) = -1) := by omega
      simp [this]
theorem idxI_ge (l : List Int) (n : Int) : -1 ≤ idxI l n := by
  unfold idxI
  split <;> omega
theorem idxI_mem (l : List Int) (n : Int) : decide (idxI l n ≥ 0) = decide (n ∈ l) := by
  induction l with
  | nil => rfl
  | cons x l ih =>
    rw [idxI_cons]
    have hg := idxI_ge l n
    by_cases c : x = n
    · simp [c]
    · rw [if_neg c]
      rw [decide_eq_decide] at ih ⊢
      rw [List.mem_cons]
      split
      · have : ¬ n ∈ l := fun h => by have := ih.2 h; omega
        simp [Ne.symm c, this]
      · have : n ∈ l := ih.1 (by omega)
        simp [this]
        omega
theorem ev_toIntS_l (l : List Int) (hn : l.length ≤ 35184372088832) : ∀ (suf pre : List Int), l = pre ++ suf → ∀ (z : List Int), z.length = suf.length → Ev (fun k => laws_toIntS.l0 k l (pre ++ z) (pre.length : Int)) l
  | [], pre, e, z, hz => by
    subst e
    have : z = [] := List.length_eq_zero_iff.1 hz
    subst this
    refine Ev.round (f := fun _ => some (pre ++ [])) (fun k => ?_) (Ev.now _)
    simp only [laws_toIntS.l0]
    rw [if_neg (by simp)]
  | x :: suf, pre, e, [], hz => by simp at hz
  | x :: suf, pre, e, y :: z, hz => by
    subst e
    have ih := ev_toIntS_l (pre ++ x :: suf) hn suf (pre ++ [x]) (snoc_mid _ _ _) z (by simpa using hz)
    refine Ev.round (fun k => ?_) ih
    simp only [laws_toIntS.l0]
    rw [if_pos (lt_mid _ _ _), if_pos (by omega), if_pos (lt_mid _ _ _), rd_mid, up_mid pre suf x (by omega)]
    congr 1
    rw [Int.toNat_natCast, List.set_append_right _ _ (Nat.le_refl _), Nat.sub_self, List.set_cons_zero]
    simp
theorem ev_toIntS (l : List Int) (hn : l.length ≤ 35184372088832) : Ev (fun k => laws_toIntS.f k l) l := by
  have h := ev_toIntS_l l hn l [] rfl (List.replicate l.length 0) (by simp)
  refine Ev.eqv (fun k => ?_) h
  unfold laws_toIntS.f
  rw [if_pos (by omega), Int.toNat_natCast, if_pos hn]
  rfl
theorem ev_eqIntS_l (a b : List Int) (hab : a.length = b.length) (hn : a.length ≤ 9223372036854775807) : ∀ (sa pa sb pb : List Int), a = pa ++ sa → b = pb ++ sb → pa.length = pb.length → Ev (fun k => laws_eqIntS.l0 k a b (pa.length : Int)) (decide (sa = sb))
  | [], pa, sb, pb, ea, eb, hp => by
    subst ea
    refine Ev.round (f := fun _ => some true) (fun k => ?_) (Ev.cast (Ev.now _) ?_)
    · simp only [laws_eqIntS.l0]
      rw [if_neg (by simp)]
    · have : sb = [] := by
        rw [eb] at hab
        simp at hab
        exact List.length_eq_zero_iff.1 (by omega)
      rw [this]; rfl
  | x :: sa, pa, [], pb, ea, eb, hp => by
    rw [ea, eb] at hab
    simp at hab
    omega
  | x :: sa, pa, y :: sb, pb, ea, eb, hp => by
    subst ea
    subst eb
    have h1 : ((pa.length : Nat) : Int) = (pb.length : Int) := by omega
    by_cases e : x = y
    · subst e
      have ih := ev_eqIntS_l (pa ++ x :: sa) (pb ++ x :: sb) hab hn sa (pa ++ [x]) sb (pb ++ [x]) (snoc_mid _ _ _) (snoc_mid _ _ _) (by simp [hp])
      refine Ev.round (fun k => ?_) (Ev.cast ih (by simp))
      simp only [laws_eqIntS.l0]
      rw [if_pos (lt_mid _ _ _), if_pos (by omega), if_pos (by rw [h1]; exact lt_mid _ _ _), rd_mid, h1, rd_mid, if_pos rfl, ← h1, up_mid _ _ _ hn]
    · refine Ev.round (f := fun _ => some false) (fun k => ?_) (Ev.cast (Ev.now _) (by simp [e]))
      simp only [laws_eqIntS.l0]
      rw [if_pos (lt_mid _ _ _), if_pos (by omega), if_pos (by rw [h1]; exact lt_mid _ _ _), rd_mid, h1, rd_mid, if_neg e]
theorem ev_eqIntS (a b : List Int) (hn : a.length ≤ 9223372036854775807) : Ev (fun k => laws_eqIntS.f k a b) (decide (a = b)) := by
  unfold laws_eqIntS.f
  by_cases h : a.length = b.length
  · exact Ev.ite_pos (by omega) (ev_eqIntS_l a b h hn a [] b [] rfl rfl rfl)
  · refine Ev.ite_neg (by omega) (Ev.cast (Ev.now _) ?_)
    rw [decide_eq_false]
    rintro rfl
    exact h rfl
theorem in_eq (a lo hi : Int) : spec_l1In.f a lo hi = some (decide (lo ≤ a) && decide (a ≤ hi)) := by
  unfold spec_l1In.f
  by_cases h : a ≥ lo
  · rw [if_pos h]; simp [h]
  · rw [if_neg h]; simp [h]
theorem within_eq (a lo hi : Int) : impl_within.f a lo hi = some (decide (lo ≤ a) && decide (a ≤ hi)) := by
  unfold impl_within.f
  by_cases h : a ≥ lo
  · rw [if_pos h]; simp [h]
  · rw [if_neg h]; simp [h]
theorem ev_l1All_l (l : List Int) (lo hi : Int) (hn : l.length ≤ 9223372036854775807) : ∀ (suf pre : List Int), l = pre ++ suf → Ev (fun k => spec_l1All.l0 k lo hi l (l.length : Int) (pre.length : Int)) (allIn suf lo hi)
  | [], pre, e => by
    subst e
    refine Ev.round (f := fun _ => some true) (fun k => ?_) (Ev.now _)
    simp only [spec_l1All.l0]
    rw [if_neg (by simp)]
  | x :: suf, pre, e => by
    subst e
    by_cases c : (decide (lo ≤ x) && decide (x ≤ hi)) = true
    · have ih := ev_l1All_l (pre ++ x :: suf) lo hi hn suf (pre ++ [x]) (snoc_mid _ _ _)
      refine Ev.round (fun k => ?_) (Ev.cast ih (by unfold allIn; rw [List.all_cons, c, Bool.true_and]))
      simp only [spec_l1All.l0]
      rw [if_pos (lt_mid _ _ _), if_pos (by omega), if_pos (lt_mid _ _ _), rd_mid, in_eq, Option.bind_some, if_pos c, up_mid _ _ _ hn]
    · refine Ev.round (f := fun _ => some false) (fun k => ?_) (Ev.cast (Ev.now _) (by unfold allIn; rw [List.all_cons, Bool.eq_false_iff.2 c, Bool.false_and]))
      simp only [spec_l1All.l0]
      rw [if_pos (lt_mid _ _ _), if_pos (by omega), if_pos (lt_mid _ _ _), rd_mid, in_eq, Option.bind_some, if_neg c]
theorem ev_l1All (l : List Int) (lo hi : Int) (hn : l.length ≤ 9223372036854775807) : Ev (fun k => spec_l1All.f k l lo hi) (allIn l lo hi) := ev_l1All_l l lo hi hn l [] rfl
theorem allWithin_eq (l : List Int) (lo hi : Int) : impl_allWithin.f l lo hi = some (allIn l lo hi) := rfl
theorem ev_l1Has_l (l : List Int) (n : Int) (hn : l.length ≤ 9223372036854775807) : ∀ (suf pre : List Int), l = pre ++ suf → Ev (fun k => spec_l1Has.l0 k n l (l.length : Int) (pre.length : Int)) (decide (n ∈ suf))
  | [], pre, e => by
    subst e
    refine Ev.round (f := fun _ => some false) (fun k => ?_) (Ev.cast (Ev.now _) (by simp))
    simp only [spec_l1Has.l0]
    rw [if_neg (by simp)]
  | x :: suf, pre, e => by
    subst e
    by_cases c : x = n
    · refine Ev.round (f := fun _ => some true) (fun k => ?_) (Ev.cast (Ev.now _) (by simp [c]))
      simp only [spec_l1Has.l0]
      rw [if_pos (lt_mid _ _ _), if_pos (by omega), if_pos (lt_mid _ _ _), rd_mid, if_pos c]
    · have ih := ev_l1Has_l (pre ++ x :: suf) n hn suf (pre ++ [x]) (snoc_mid _ _ _)
      refine Ev.round (fun k => ?_) (Ev.cast ih (by simp [Ne.symm c]))
      simp only [spec_l1Has.l0]
      rw [if_pos (lt_mid _ _ _), if_pos (by omega), if_pos (lt_mid _ _ _), rd_mid, if_neg c, up_mid _ _ _ hn]
theorem ev_l1Has (l : List Int) (n : Int) (hn : l.length ≤ 9223372036854775807) : Ev (fun k => spec_l1Has.f k l n) (decide (n ∈ l)) := ev_l1Has_l l n hn l [] rfl
theorem ev_Index_l (l : List Int) (n : Int) (hn : l.length ≤ 9223372036854775807) : ∀ (suf pre : List Int), l = pre ++ suf → Ev (fun k => slices_Index_int_int.l0 k l n (l.length : Int) (pre.length : Int)) (if idxI suf n = -1 then -1 else (pre.length : Int) + idxI suf n)
  | [], pre, e => by
    subst e
    refine Ev.round (f := fun _ => some (-1)) (fun k => ?_) (Ev.cast (Ev.now _) (by rw [idxI_nil, if_pos rfl]))
    simp only [slices_Index_int_int.l0]
    rw [if_neg (by simp)]
  | x :: suf, pre, e => by
    subst e
    by_cases c : x = n
    · refine Ev.round (f := fun _ => some (pre.length : Int)) (fun k => ?_) (Ev.cast (Ev.now _) (by rw [idxI_cons, if_pos c, if_neg (by omega)]; omega))
      simp only [slices_Index_int_int.l0]
      rw [if_pos (lt_mid _ _ _), if_pos (by omega), if_pos (lt_mid _ _ _), rd_mid, if_pos c.symm]
    · have ih := ev_Index_l (pre ++ x :: suf) n hn suf (pre ++ [x]) (snoc_mid _ _ _)
      have hg := idxI_ge suf n
      refine Ev.round (fun k => ?_) (Ev.cast ih (by rw [idxI_cons, if_neg c, List.length_append, List.length_singleton]; by_cases e : idxI suf n = -1 <;> simp [e]; omega))
      simp only [slices_Index_int_int.l0]
      rw [if_pos (lt_mid _ _ _), if_pos (by omega), if_pos (lt_mid _ _ _), rd_mid, if_neg (Ne.symm c), up_mid _ _ _ hn]
theorem ev_Index (l : List Int) (n : Int) (hn : l.length ≤ 9223372036854775807) : Ev (fun k => slices_Index_int_int.f k l n) (idxI l n) :=
  Ev.cast (ev_Index_l l n hn l [] rfl) (by have := idxI_ge l n; split <;> simp_all)
theorem ev_Contains (l : List Int) (n : Int) (hn : l.length ≤ 9223372036854775807) : Ev (fun k => slices_Contains_int_int.f k l n) (decide (n ∈ l)) := by
  unfold slices_Contains_int_int.f
  exact Ev.bind (ev_Index l n hn) (Ev.cast (Ev.now _) (idxI_mem l n))
theorem ev_Equal_l (a b : List Int) (hab : a.length = b.length) (hn : a.length ≤ 9223372036854775807) : ∀ (sa pa sb pb : List Int), a = pa ++ sa → b = pb ++ sb → pa.length = pb.length → Ev (fun k => slices_Equal_int_int.l0 k a b (a.length : Int) (pa.length : Int)) (decide (sa = sb))
  | [], pa, sb, pb, ea, eb, hp => by
    subst ea
    refine Ev.round (f := fun _ => some true) (fun k => ?_) (Ev.cast (Ev.now _) ?_)
    · simp only [slices_Equal_int_int.l0]
      rw [if_neg (by simp)]
    · have : sb = [] := by
        rw [eb] at hab
        simp at hab
        exact List.length_eq_zero_iff.1 (by omega)
      rw [this]; rfl
  | x :: sa, pa, [], pb, ea, eb, hp => by
    rw [ea, eb] at hab
    simp at hab
    omega
  | x :: sa, pa, y :: sb, pb, ea, eb, hp => by
    subst ea
    subst eb
    have h1 : ((pa.length : Nat) : Int) = (pb.length : Int) := by omega
    have h2 : (pa.length : Int) < ((pb ++ y :: sb).length : Int) := by rw [h1]; exact lt_mid _ _ _
    have h3 : rd (pb ++ y :: sb) (pa.length : Int) = y := by rw [h1]; exact rd_mid _ _ _
    by_cases e : x = y
    · subst e
      have ih := ev_Equal_l (pa ++ x :: sa) (pb ++ x :: sb) hab hn sa (pa ++ [x]) sb (pb ++ [x]) (snoc_mid _ _ _) (snoc_mid _ _ _) (by simp [hp])
      refine Ev.round (fun k => ?_) (Ev.cast ih (by simp))
      simp only [slices_Equal_int_int.l0]
      rw [if_pos (lt_mid _ _ _), if_pos (by omega), if_pos (lt_mid _ _ _), if_pos h2, rd_mid, h3, if_pos rfl, up_mid _ _ _ hn]
    · refine Ev.round (f := fun _ => some false) (fun k => ?_) (Ev.cast (Ev.now _) (by simp [e]))
      simp only [slices_Equal_int_int.l0]
      rw [if_pos (lt_mid _ _ _), if_pos (by omega), if_pos (lt_mid _ _ _), if_pos h2, rd_mid, h3, if_neg e]
theorem ev_Equal (a b : List Int) (hn : a.length ≤ 9223372036854775807) : Ev (fun k => slices_Equal_int_int.f k a b) (decide (a = b)) := by
  unfold slices_Equal_int_int.f
  by_cases h : a.length = b.length
  · exact Ev.ite_pos (by omega) (ev_Equal_l a b h hn a [] b [] rfl rfl rfl)
  · refine Ev.ite_neg (by omega) (Ev.cast (Ev.now _) ?_)
    rw [decide_eq_false]
    rintro rfl
    exact h rfl
/-- n numbers from a on. -/
def upFrom (a : Int) : Nat → List Int
  | 0 => []
  | n + 1 => a :: upFrom (a + 1) n
theorem ev_markIntS_l : ∀ (suf pre : List Int) (a : Int), 0 ≤ a → a + suf.length ≤ 4611686018427387904 → pre.length + suf.length ≤ 4611686018427387904 → Ev (fun k => laws_markIntS.l0 k (pre ++ suf) a (pre.length : Int)) (a + suf.length, pre ++ upFrom a suf.length)
  | [], pre, a, h0, h1, h2 => by
    refine Ev.round (f := fun _ => some (a, pre ++ [])) (fun k => ?_) (Ev.cast (Ev.now _) (by simp [upFrom]))
    simp only [laws_markIntS.l0]
    rw [if_neg (by simp)]
  | x :: suf, pre, a, h0, h1, h2 => by
    rw [List.length_cons] at h1 h2
    have ih := ev_markIntS_l suf (pre ++ [a]) (a + 1) (by omega) (by omega) (by simp; omega)
    refine Ev.round (fun k => ?_) (Ev.cast ih (by rw [List.length_cons, upFrom]; simp; omega))
    simp only [laws_markIntS.l0]
    have hw : wrap64 (a + 1) = a + 1 := by unfold wrap64; omega
    have hw2 : wrap64 ((pre.length : Int) + 1) = ((pre ++ [a]).length : Int) := by unfold wrap64; simp; omega
    rw [if_pos (lt_mid _ _ _), if_pos (by omega), hw, hw2, Int.toNat_natCast, List.set_append_right _ _ (Nat.le_refl _), Nat.sub_self, List.set_cons_zero]
    simp
theorem ev_markIntS (l : List Int) (a : Int) (h0 : 0 ≤ a) (h1 : a + l.length ≤ 4611686018427387904) : Ev (fun k => laws_markIntS.f k l a) (a + l.length, upFrom a l.length) := ev_markIntS_l l [] a h0 h1 (by simp; omega)
theorem ev_heldIntS_l : ∀ (n : Nat) (pre : List Int) (a : Int), 0 ≤ a → a + n ≤ 4611686018427387904 → pre.length + n ≤ 4611686018427387904 → Ev (fun k => laws_heldIntS.l0 k (pre ++ upFrom a n) a (pre.length : Int)) (a + n)
  | 0, pre, a, h0, h1, h2 => by
    refine Ev.round (f := fun _ => some a) (fun k => ?_) (Ev.cast (Ev.now _) (by simp))
    simp only [laws_heldIntS.l0]
    rw [if_neg (by simp [upFrom])]
  | n + 1, pre, a, h0, h1, h2 => by
    have ih := ev_heldIntS_l n (pre ++ [a]) (a + 1) (by omega) (by omega) (by simp; omega)
    refine Ev.round (fun k => ?_) (Ev.cast ih (by omega))
    rw [upFrom]
    simp only [laws_heldIntS.l0]
    have hw : wrap64 (a + 1) = a + 1 := by unfold wrap64; omega
    have hw2 : wrap64 ((pre.length : Int) + 1) = ((pre ++ [a]).length : Int) := by unfold wrap64; simp; omega
    rw [if_pos (lt_mid _ _ _), if_pos (by omega), rd_mid, if_pos rfl, hw, hw2]
    simp
theorem ev_heldIntS (a : Int) (n : Nat) (h0 : 0 ≤ a) (h1 : a + n ≤ 4611686018427387904) : Ev (fun k => laws_heldIntS.f k (upFrom a n) a) (a + n) := ev_heldIntS_l n [] a h0 h1 (by simp; omega)
/-- From a place on no good stands where one stood before: pre is what lies ahead. -/
def noTwice : List Int → List Int → Bool
  | _, [] => true
  | pre, x :: suf => (decide (x = 0) || !decide (x ∈ pre)) && noTwice (pre ++ [x]) suf
def goodSpots (l : List Int) : Bool := (decide (2 ≤ (l.length : Int)) && decide ((l.length : Int) ≤ 9)) && (decide ((0 : Int) ∈ l) && (allIn l 0 20 && noTwice [] l))
theorem take_mid {α : Type} (pre suf : List α) : (pre ++ suf).take (pre.length : Int).toNat = pre := by
  rw [Int.toNat_natCast, List.take_left]
theorem ev_GoodSpots_l (l : List Int) (hn : l.length ≤ 9223372036854775807) (h0 : ∀ x ∈ l, 0 ≤ x) : ∀ (suf pre : List Int), l = pre ++ suf → Ev (fun k => spec_GoodSpots.l0 k l l (l.length : Int) (pre.length : Int)) (noTwice pre suf)
  | [], pre, e => by
    subst e
    refine Ev.round (f := fun _ => some true) (fun k => ?_) (Ev.now _)
    simp only [spec_GoodSpots.l0]
    rw [if_neg (by simp)]
  | x :: suf, pre, e => by
    subst e
    have ih := ev_GoodSpots_l (pre ++ x :: suf) hn h0 suf (pre ++ [x]) (snoc_mid _ _ _)
    have hx := h0 x (by simp)
    have hg := lt_mid pre suf x
    by_cases c : x = 0
    · refine Ev.round (fun k => ?_) (Ev.cast ih (by simp [noTwice, c]))
      simp only [spec_GoodSpots.l0]
      rw [if_pos hg, if_pos (by omega), if_pos hg, rd_mid, if_neg (by omega), up_mid _ _ _ hn]
    · by_cases m : x ∈ pre
      · refine Ev.round (fun k => ?_) (Ev.bind (ev_l1Has pre x (by simp at hn; omega)) (f := fun k t => if t = true then some false else spec_GoodSpots.l0 k (pre ++ x :: suf) (pre ++ x :: suf) ((pre ++ x :: suf).length : Int) (wrap64 ((pre.length : Int) + 1))) ?_)
        · simp only [spec_GoodSpots.l0]
          rw [if_pos hg, if_pos (by omega), if_pos hg, rd_mid, if_pos (by omega), if_pos (by omega), take_mid]
        · exact Ev.ite_pos (by simpa using m) (Ev.cast (Ev.now _) (by simp [noTwice, c, m]))
      · refine Ev.round (fun k => ?_) (Ev.bind (ev_l1Has pre x (by simp at hn; omega)) (f := fun k t => if t = true then some false else spec_GoodSpots.l0 k (pre ++ x :: suf) (pre ++ x :: suf) ((pre ++ x :: suf).length : Int) (wrap64 ((pre.length : Int) + 1))) ?_)
        · simp only [spec_GoodSpots.l0]
          rw [if_pos hg, if_pos (by omega), if_pos hg, rd_mid, if_pos (by omega), if_pos (by omega), take_mid]
        · refine Ev.ite_neg (by simpa using m) ?_
          rw [up_mid _ _ _ hn]
          exact Ev.cast ih (by simp [noTwice, c, m])
theorem ev_GoodSpots (l : List Int) (hn : l.length ≤ 9223372036854775807) : Ev (fun k => spec_GoodSpots.f k l) (goodSpots l) := by
  unfold spec_GoodSpots.f
  refine Ev.bindc (in_eq _ _ _) ?_
  by_cases h1 : (decide (2 ≤ (l.length : Int)) && decide ((l.length : Int) ≤ 9)) = true
  · refine Ev.ite_pos h1 (Ev.bind (ev_l1Has l 0 hn) ?_)
    by_cases h2 : (0 : Int) ∈ l
    · refine Ev.ite_pos (by simpa using h2) (Ev.bind (ev_l1All l 0 20 hn) ?_)
      refine Ev.round (fun k => by simp only [spec_GoodSpots.j0]; rfl) ?_
      cases h3 : allIn l 0 20 with
      | true =>
        refine Ev.ite_neg (by simp) (Ev.cast (ev_GoodSpots_l l hn (fun x hx => (allIn_iff.1 h3 x hx).1) l [] rfl) ?_)
        simp only [goodSpots, h1, h2, h3]
        simp
      | false =>
        refine Ev.ite_pos (by simp) (Ev.cast (Ev.now _) ?_)
        simp [goodSpots, h3]
    · refine Ev.ite_neg (by simpa using h2) ?_
      refine Ev.round (fun k => by simp only [spec_GoodSpots.j0]; rfl) ?_
      refine Ev.ite_pos (by trivial) (Ev.cast (Ev.now _) ?_)
      simp [goodSpots, h2]
  · refine Ev.ite_neg h1 ?_
    refine Ev.round (fun k => by simp only [spec_GoodSpots.j0]; rfl) ?_
    refine Ev.ite_pos (by trivial) (Ev.cast (Ev.now _) ?_)
    unfold goodSpots
    rw [Bool.eq_false_iff.2 h1]
    rfl
theorem ev_implGoodSpots_l (l : List Int) (hn : l.length ≤ 9223372036854775807) : ∀ (suf pre : List Int), l = pre ++ suf →
    Ev (fun k => impl_GoodSpots.l0 k l l (l.length : Int) (pre.length : Int)) (noTwice pre suf && ((decide (2 ≤ (l.length : Int)) && decide ((l.length : Int) ≤ 9)) && (allIn l 0 20 && decide ((0 : Int) ∈ l))))
  | [], pre, e => by
    refine Ev.round (f := fun k => (impl_within.f (l.length : Int) 2 9).bind fun t => if t = true then ((impl_allWithin.f l 0 20).bind fun t => if t = true then ((slices_Contains_int_int.f k l 0).bind fun t => some t) else some false) else some false) (fun k => ?_) ?_
    · simp only [impl_GoodSpots.l0]
      rw [if_neg (by subst e; simp)]
    · refine Ev.bindc (within_eq _ _ _) ?_
      by_cases h1 : (decide (2 ≤ (l.length : Int)) && decide ((l.length : Int) ≤ 9)) = true
      · refine Ev.ite_pos h1 (Ev.bindc (allWithin_eq _ _ _) ?_)
        cases h3 : allIn l 0 20 with
        | true => exact Ev.ite_pos rfl (Ev.bind (ev_Contains l 0 hn) (Ev.cast (Ev.now _) (by simp [noTwice, h1])))
        | false => exact Ev.ite_neg (by simp) (Ev.cast (Ev.now _) (by simp))
      · refine Ev.ite_neg h1 (Ev.cast (Ev.now _) ?_)
        rw [Bool.eq_false_iff.2 h1]
        simp
  | x :: suf, pre, e => by
    subst e
    have ih := ev_implGoodSpots_l (pre ++ x :: suf) hn suf (pre ++ [x]) (snoc_mid _ _ _)
    have hg := lt_mid pre suf x
    by_cases c : x = 0
    · refine Ev.round (fun k => ?_) (Ev.cast ih (by simp [noTwice, c]))
      simp only [impl_GoodSpots.l0]
      rw [if_pos hg, if_pos (by omega), if_pos hg, rd_mid, if_pos c, up_mid _ _ _ hn]
    · refine Ev.round (fun k => ?_) (Ev.bind (ev_Contains pre x (by simp at hn; omega)) (f := fun k t => if t = true then some false else impl_GoodSpots.l0 k (pre ++ x :: suf) (pre ++ x :: suf) ((pre ++ x :: suf).length : Int) (wrap64 ((pre.length : Int) + 1))) ?_)
      · simp only [impl_GoodSpots.l0]
        rw [if_pos hg, if_pos (by omega), if_pos hg, rd_mid, if_neg c, if_pos (by omega), take_mid]
      · by_cases m : x ∈ pre
        · exact Ev.ite_pos (by simpa using m) (Ev.cast (Ev.now _) (by simp [noTwice, c, m]))
        · refine Ev.ite_neg (by simpa using m) ?_
          rw [up_mid _ _ _ hn]
          exact Ev.cast ih (by simp [noTwice, c, m])
theorem ev_implGoodSpots (l : List Int) (hn : l.length ≤ 9223372036854775807) : Ev (fun k => impl_GoodSpots.f k l) (goodSpots l) := by
  refine Ev.cast (ev_implGoodSpots_l l hn l [] rfl) ?_
  unfold goodSpots
  generalize (decide (2 ≤ (l.length : Int)) && decide ((l.length : Int) ≤ 9)) = a
  generalize decide ((0 : Int) ∈ l) = b
  generalize allIn l 0 20 = c
  generalize noTwice [] l = d
  cases a <;> cases b <;> cases c <;> cases d <;> rfl
theorem rdM_mid (pre suf : List S39) (x : S39) : rd_T39 (pre ++ x :: suf) (pre.length : Int) = x := getD_mid z39 pre suf x
def doM (l : List Int) (a b : Int) : Option (List Int) := if ((0 ≤ a ∧ a < (l.length : Int)) ∧ (0 ≤ b ∧ b < (l.length : Int))) ∧ ¬ rd l a = 0 ∧ rd l b = 0 then some ((l.set a.toNat 0).set b.toNat (rd l a)) else none
def doZ (l : List Int) (a b : Int) : Bool × List Int := match doM l a b with
  | some l' => (true, l')
  | none => (false, l)
theorem l10Do_eq (l : List Int) (a b : Int) : spec_l10Do.f l a b = some (doZ l a b) := by
  unfold spec_l10Do.f doZ doM
  by_cases c : ((0 ≤ a ∧ a < (l.length : Int)) ∧ (0 ≤ b ∧ b < (l.length : Int))) ∧ ¬ rd l a = 0 ∧ rd l b = 0
  · rw [if_pos c]
    obtain ⟨⟨⟨h1, h2⟩, h3, h4⟩, h5, h6⟩ := c
    have hne : a.toNat ≠ b.toNat := fun e => h5 (by rw [show a = b by omega]; exact h6)
    rw [if_neg (by omega), if_neg (by omega), if_neg (by omega), if_neg (by omega), if_pos h1, if_pos h2, if_neg h5, if_pos h3, if_pos h4, if_pos h6, List.set_comm _ _ hne.symm]
  · rw [if_neg c]
    by_cases h1 : a < 0
    · rw [if_pos h1]
    rw [if_neg h1]
    by_cases h2 : a ≥ (l.length : Int)
    · rw [if_pos h2]
    rw [if_neg h2]
    by_cases h3 : b < 0
    · rw [if_pos h3]
    rw [if_neg h3]
    by_cases h4 : b ≥ (l.length : Int)
    · rw [if_pos h4]
    rw [if_neg h4, if_pos (by omega), if_pos (by omega)]
    by_cases h5 : rd l a = 0
    · rw [if_pos h5]
    rw [if_neg h5, if_pos (by omega), if_pos (by omega)]
    by_cases h6 : rd l b = 0
    · exact absurd ⟨⟨⟨by omega, by omega⟩, by omega, by omega⟩, h5, h6⟩ c
    rw [if_neg h6]
def movedZ (l : List Int) (a b : Int) : List Int × Bool := match doM l a b with
  | some l' => (l', true)
  | none => ([], false)
theorem moved_eq (l : List Int) (a b : Int) (hl : l.length < 17592186044416) : impl_moved.f l a b = some (movedZ l a b) := by
  unfold impl_moved.f movedZ doM
  rw [if_pos (by first | exact hl | omega)]
  split <;> rfl
theorem ev_eqMoveS_l (a : List S39) (hn : a.length ≤ 9223372036854775807) : ∀ (sa pa : List S39), a = pa ++ sa → Ev (fun k => laws_eqMoveS.l0 k a a (pa.length : Int)) true
  | [], pa, e => by
    refine Ev.round (f := fun _ => some true) (fun k => ?_) (Ev.now _)
    simp only [laws_eqMoveS.l0]
    rw [if_neg (by rw [e]; simp)]
  | x :: sa, pa, e => by
    have ih := ev_eqMoveS_l a hn sa (pa ++ [x]) (by rw [e]; simp)
    have h1 : (pa.length : Int) < (a.length : Int) := by rw [e]; exact lt_mid _ _ _
    have h3 : wrap64 ((pa.length : Int) + 1) = ((pa ++ [x]).length : Int) := by
      have : pa.length + 1 ≤ a.length := by omega
      rw [List.length_append, List.length_singleton]; unfold wrap64; omega
    refine Ev.round (fun k => ?_) ih
    simp only [laws_eqMoveS.l0]
    unfold laws_eqMove.f
    rw [if_pos h1, if_pos (by omega), if_pos h1, if_pos rfl, if_pos rfl, Option.bind_some, if_pos rfl, h3]
theorem ev_eqMoveS (a : List S39) (hn : a.length ≤ 9223372036854775807) : Ev (fun k => laws_eqMoveS.f k a a) true := by
  unfold laws_eqMoveS.f
  exact Ev.ite_pos rfl (ev_eqMoveS_l a hn a [] rfl)
theorem sortI_of_perm {a b : List Int} (h : a.Perm b) : sortI a = sortI b := by
  have hs : ∀ l : List Int, (sortI l).Pairwise (· ≤ ·) := fun l => by
    have h := List.pairwise_mergeSort (le := fun x y : Int => decide (x ≤ y)) (fun a b c h1 h2 => by rw [decide_eq_true_eq] at h1 h2 ⊢; omega) (fun a b => by rw [Bool.or_eq_true, decide_eq_true_eq, decide_eq_true_eq]; omega) l
    exact h.imp (fun h => of_decide_eq_true h)
  exact List.Perm.eq_of_pairwise (fun x y _ _ h1 h2 => by omega) (hs a) (hs b) (((List.mergeSort_perm a _).trans h).trans (List.mergeSort_perm b _).symm)
theorem sortI_iff {a b : List Int} : sortI a = sortI b ↔ a.Perm b :=
  ⟨fun h => (List.mergeSort_perm a (fun x y => decide (x ≤ y))).symm.trans ((show (a.mergeSort fun x y => decide (x ≤ y)) = (b.mergeSort fun x y => decide (x ≤ y)) from h) ▸ List.mergeSort_perm b (fun x y => decide (x ≤ y))), sortI_of_perm⟩
theorem nodup_perm : ∀ {a b : List Int}, a.Nodup → b.Nodup → (∀ x, x ∈ a ↔ x ∈ b) → a.Perm b
  | [], b, _, _, h => by
    cases b with
    | nil => exact List.Perm.refl _
    | cons y b => have := (h y).2 (by simp); cases this
  | x :: a, b, ha, hb, h => by
    have hx : x ∈ b := (h x).1 (by simp)
    rw [List.nodup_cons] at ha
    refine (List.Perm.cons x (nodup_perm ha.2 (hb.erase x) (fun y => ?_))).trans (List.perm_cons_erase hx).symm
    rw [hb.mem_erase_iff]
    constructor
    · exact fun hy => ⟨fun e => ha.1 (e ▸ hy), (h y).1 (by simp [hy])⟩
    · rintro ⟨h1, h2⟩
      rcases List.mem_cons.1 ((h y).2 h2) with e | e
      · exact absurd e h1
      · exact e
theorem noTwice_iff : ∀ (l pre : List Int), noTwice pre l = true → (∀ x ∈ l, x ≠ 0 → ¬ x ∈ pre) ∧ (l.filter fun x => decide (x ≠ 0)).Nodup
  | [], _, _ => by simp
  | x :: l, pre, h => by
    rw [noTwice, Bool.and_eq_true, Bool.or_eq_true, decide_eq_true_eq, Bool.not_eq_true', decide_eq_false_iff_not] at h
    obtain ⟨h1, h2⟩ := noTwice_iff l (pre ++ [x]) h.2
    refine ⟨fun y hy hy0 => ?_, ?_⟩
    · rcases List.mem_cons.1 hy with rfl | hy
      · rcases h.1 with h | h
        · exact absurd h hy0
        · exact h
      · exact fun hp => h1 y hy hy0 (by simp [hp])
    · rw [List.filter_cons]
      split
      · refine List.nodup_cons.2 ⟨fun hx => ?_, h2⟩
        rw [List.mem_filter] at hx
        exact h1 x hx.1 (by simpa using hx.2) (by simp)
      · exact h2
/-- Two good lists are alike just where they are as long and have the same members. -/
theorem alike_iff {a b : List Int} (ha : noTwice [] a = true) (hb : noTwice [] b = true) (hl : a.length = b.length) (h : ∀ x, x ∈ a ↔ x ∈ b) : a.Perm b := by
  have ga := (noTwice_iff a [] ha).2
  have gb := (noTwice_iff b [] hb).2
  have hf := nodup_perm ga gb (fun x => by rw [List.mem_filter, List.mem_filter, h])
  have key : ∀ l : List Int, l.Perm ((l.filter fun x => decide (x ≠ 0)) ++ List.replicate (l.length - (l.filter fun x => decide (x ≠ 0)).length) 0) := fun l => by
    have hp := List.filter_append_perm (fun x : Int => decide (x ≠ 0)) l
    have hlen := hp.length_eq
    rw [List.length_append] at hlen
    have e : (l.filter fun x => !decide (x ≠ 0)) = List.replicate (l.length - (l.filter fun x => decide (x ≠ 0)).length) 0 := by
      rw [List.eq_replicate_iff]
      refine ⟨by omega, fun y hy => ?_⟩
      rw [List.mem_filter] at hy
      simpa using hy.2
    rw [← e]
    exact hp.symm
  refine (key a).trans (List.Perm.trans ?_ (key b).symm)
  rw [hf.length_eq, hl]
  exact hf.append_right _
def alikeB (a b : List Int) : Bool := goodSpots a && (goodSpots b && decide (sortI a = sortI b))
theorem alikeB_ok {a b : List Int} (h : alikeB a b = true) : (2 ≤ a.length ∧ a.length ≤ 9) ∧ (∀ x ∈ a, 0 ≤ x ∧ x ≤ 20) ∧ (∀ x ∈ b, 0 ≤ x ∧ x ≤ 20) ∧ noTwice [] a = true ∧ noTwice [] b = true ∧ (0 : Int) ∈ b ∧ a.Perm b := by
  unfold alikeB goodSpots at h
  rw [Bool.and_eq_true, Bool.and_eq_true, Bool.and_eq_true, Bool.and_eq_true, Bool.and_eq_true, Bool.and_eq_true, Bool.and_eq_true, Bool.and_eq_true, Bool.and_eq_true, Bool.and_eq_true, decide_eq_true_eq, decide_eq_true_eq, decide_eq_true_eq, decide_eq_true_eq, decide_eq_true_eq, decide_eq_true_eq, decide_eq_true_eq, allIn_iff, allIn_iff, sortI_iff] at h
  obtain ⟨⟨⟨h1, h2⟩, h3, h4, h5⟩, ⟨⟨h6, h7⟩, h8, h9, h10⟩, h11⟩ := h
  exact ⟨⟨by omega, by omega⟩, h4, h9, h5, h10, h8, h11⟩
theorem ev_areAlike (a b : List Int) (ha : a.length ≤ 1048576) (hb : b.length ≤ 1048576) : Ev (fun k => impl_areAlike.f k a b) (alikeB a b) := by
  unfold impl_areAlike.f alikeB
  refine Ev.bind (ev_implGoodSpots a (by omega)) ?_
  cases h1 : goodSpots a with
  | false => exact Ev.ite_neg (by decide) (Ev.now _)
  | true =>
    refine Ev.ite_pos rfl (Ev.bind (ev_implGoodSpots b (by omega)) ?_)
    cases h2 : goodSpots b with
    | false => exact Ev.ite_neg (by decide) (Ev.now _)
    | true => exact Ev.ite_pos rfl (Ev.ite_pos (by omega) (Ev.cast (ev_Equal (sortI a) (sortI b) (by rw [sortI_length]; omega)) (by simp)))
theorem ev_both1 (a b c : List Int) (hb : b.length ≤ 1048576) (ha : a.length ≤ 1048576) (hc : c.length ≤ 1048576) : ∀ (suf pre : List Int), c = pre ++ suf → Ev (fun k => spec_l10Both.l1 k a c (c.length : Int) (pre.length : Int)) (suf.all fun x => decide (x ∈ a))
  | [], pre, e => by
    subst e
    refine Ev.round (f := fun _ => some true) (fun k => ?_) (Ev.now _)
    simp only [spec_l10Both.l1]
    rw [if_neg (by simp)]
  | x :: suf, pre, e => by
    subst e
    have ih := ev_both1 a b (pre ++ x :: suf) hb ha hc suf (pre ++ [x]) (snoc_mid _ _ _)
    refine Ev.round (fun k => by simp only [spec_l10Both.l1]; rw [if_pos (lt_mid _ _ _), rd_mid, up_mid pre suf x (by omega)]) ?_
    refine Ev.ite_pos (by omega) (Ev.ite_pos (lt_mid _ _ _) (Ev.bind (ev_l1Has a x (by omega)) ?_))
    rw [List.all_cons]
    by_cases h : x ∈ a
    · rw [decide_eq_true h, Bool.true_and]
      exact Ev.ite_pos rfl ih
    · rw [decide_eq_false h, Bool.false_and]
      exact Ev.ite_neg (by decide) (Ev.now _)
theorem ev_both0 (a b : List Int) (hb : b.length ≤ 1048576) (ha : a.length ≤ 1048576) : ∀ (suf pre : List Int), a = pre ++ suf → Ev (fun k => spec_l10Both.l0 k a b a (a.length : Int) (pre.length : Int)) ((suf.all fun x => decide (x ∈ b)) && (b.all fun x => decide (x ∈ a)))
  | [], pre, e => by
    refine Ev.round (fun k => by simp only [spec_l10Both.l0]; rw [if_neg (by subst e; simp)]) ?_
    rw [List.all_nil, Bool.true_and]
    exact ev_both1 a b b hb ha hb b [] rfl
  | x :: suf, pre, e => by
    subst e
    have ih := ev_both0 (pre ++ x :: suf) b hb ha suf (pre ++ [x]) (snoc_mid _ _ _)
    refine Ev.round (fun k => by simp only [spec_l10Both.l0]; rw [if_pos (lt_mid _ _ _), rd_mid, up_mid pre suf x (by omega)]) ?_
    refine Ev.ite_pos (by omega) (Ev.ite_pos (lt_mid _ _ _) (Ev.bind (ev_l1Has b x (by omega)) ?_))
    rw [List.all_cons]
    by_cases h : x ∈ b
    · rw [decide_eq_true h, Bool.true_and]
      exact Ev.ite_pos rfl ih
    · rw [decide_eq_false h, Bool.false_and, Bool.false_and]
      exact Ev.ite_neg (by decide) (Ev.now _)
theorem good_noTwice {a : List Int} (h : goodSpots a = true) : noTwice [] a = true := by
  unfold goodSpots at h
  rw [Bool.and_eq_true, Bool.and_eq_true, Bool.and_eq_true, Bool.and_eq_true] at h
  exact h.2.2.2
theorem ev_l10Both (a b : List Int) (ha : a.length ≤ 1048576) (hb : b.length ≤ 1048576) : Ev (fun k => spec_l10Both.f k a b) (alikeB a b) := by
  unfold spec_l10Both.f alikeB
  refine Ev.bind (ev_GoodSpots a (by omega)) ?_
  cases h1 : goodSpots a with
  | false => exact Ev.ite_neg (by decide) (Ev.round (f := fun _ => some false) (fun k => by simp only [spec_l10Both.j0]; rw [if_pos trivial]) (Ev.now _))
  | true =>
    refine Ev.ite_pos rfl (Ev.bind (ev_GoodSpots b (by omega)) ?_)
    cases h2 : goodSpots b with
    | false => exact Ev.ite_neg (by decide) (Ev.round (f := fun _ => some false) (fun k => by simp only [spec_l10Both.j0]; rw [if_pos trivial]) (Ev.now _))
    | true =>
      refine Ev.ite_pos rfl ?_
      by_cases hl : a.length = b.length
      · refine Ev.round (fun k => by simp only [spec_l10Both.j0]; rw [if_neg (by simp [hl])]; rfl) (Ev.cast (ev_both0 a b hb ha a [] rfl) ?_)
        rw [Bool.true_and, Bool.true_and, Bool.eq_iff_iff, Bool.and_eq_true, List.all_eq_true, List.all_eq_true, decide_eq_true_eq, sortI_iff]
        constructor
        · rintro ⟨k1, k2⟩
          exact alike_iff (good_noTwice h1) (good_noTwice h2) hl (fun x => ⟨fun hx => by simpa using k1 x hx, fun hx => by simpa using k2 x hx⟩)
        · intro hp
          exact ⟨fun x hx => by simpa using hp.mem_iff.1 hx, fun x hx => by simpa using hp.mem_iff.2 hx⟩
      · refine Ev.round (f := fun _ => some false) (fun k => by simp only [spec_l10Both.j0]; rw [if_pos (by simp; omega)]) (Ev.cast (Ev.now _) ?_)
        rw [Bool.true_and, Bool.true_and, eq_comm, decide_eq_false_iff_not, sortI_iff]
        exact fun hp => hl hp.length_eq
theorem ev_l10Spot_l (l : List Int) (n : Int) (hn : l.length ≤ 9223372036854775807) : ∀ (suf pre : List Int), l = pre ++ suf → Ev (fun k => spec_l10Spot.l0 k n l (l.length : Int) (pre.length : Int)) (if idxI suf n = -1 then -1 else (pre.length : Int) + idxI suf n)
  | [], pre, e => by
    subst e
    refine Ev.round (f := fun _ => some (-1)) (fun k => ?_) (Ev.cast (Ev.now _) (by rw [idxI_nil, if_pos rfl]))
    simp only [spec_l10Spot.l0]
    rw [if_neg (by simp)]
  | x :: suf, pre, e => by
    subst e
    by_cases c : x = n
    · refine Ev.round (f := fun _ => some (pre.length : Int)) (fun k => ?_) (Ev.cast (Ev.now _) (by rw [idxI_cons, if_pos c, if_neg (by omega)]; omega))
      simp only [spec_l10Spot.l0]
      rw [if_pos (lt_mid _ _ _), if_pos (by omega), if_pos (lt_mid _ _ _), rd_mid, if_pos c]
    · have ih := ev_l10Spot_l (pre ++ x :: suf) n hn suf (pre ++ [x]) (snoc_mid _ _ _)
      have hg := idxI_ge suf n
      refine Ev.round (fun k => ?_) (Ev.cast ih (by rw [idxI_cons, if_neg c, List.length_append, List.length_singleton]; by_cases e : idxI suf n = -1 <;> simp [e]; omega))
      simp only [spec_l10Spot.l0]
      rw [if_pos (lt_mid _ _ _), if_pos (by omega), if_pos (lt_mid _ _ _), rd_mid, if_neg c, up_mid _ _ _ hn]
theorem ev_l10Spot (l : List Int) (n : Int) (hn : l.length ≤ 9223372036854775807) : Ev (fun k => spec_l10Spot.f k l n) (idxI l n) :=
  Ev.cast (ev_l10Spot_l l n hn l [] rfl) (by have := idxI_ge l n; split <;> simp_all)
theorem idxI_at {n : Int} : ∀ {l : List Int}, n ∈ l → 0 ≤ idxI l n ∧ idxI l n < (l.length : Int) ∧ rd l (idxI l n) = n
  | [], h => by cases h
  | x :: l, h => by
    rw [idxI_cons]
    by_cases c : x = n
    · rw [if_pos c]
      refine ⟨by omega, by rw [List.length_cons]; omega, ?_⟩
      show x = n
      exact c
    · rw [if_neg c]
      have hm : n ∈ l := by
        rcases List.mem_cons.1 h with e | e
        · exact absurd e.symm c
        · exact e
      obtain ⟨h1, h2, h3⟩ := idxI_at hm
      rw [if_neg (by omega)]
      refine ⟨by omega, by rw [List.length_cons]; omega, ?_⟩
      unfold rd at h3 ⊢
      rw [show (idxI l n + 1).toNat = (idxI l n).toNat + 1 by omega]
      exact h3
/-- How many numbers below n are so. -/
def cnt (p : Nat → Bool) : Nat → Nat
  | 0 => 0
  | n + 1 => cnt p n + (if p n = true then 1 else 0)
theorem cnt_le {p q : Nat → Bool} : ∀ {n : Nat}, (∀ k, k < n → q k = true → p k = true) → cnt q n ≤ cnt p n
  | 0, _ => Nat.le_refl _
  | n + 1, h => by
    have ih := cnt_le (p := p) (q := q) (n := n) (fun k hk => h k (by omega))
    have hn := h n (by omega)
    rw [cnt, cnt]
    by_cases c : q n = true
    · rw [if_pos c, if_pos (hn c)]; omega
    · rw [if_neg c]; omega
theorem cnt_lt {p q : Nat → Bool} {a : Nat} : ∀ {n : Nat}, (∀ k, k < n → q k = true → p k = true) → a < n → p a = true → q a = false → cnt q n < cnt p n
  | 0, _, h, _, _ => by omega
  | n + 1, h, ha, hp, hq => by
    rw [cnt, cnt]
    by_cases e : a = n
    · subst e
      have ih := cnt_le (p := p) (q := q) (n := a) (fun k hk => h k (by omega))
      rw [if_pos hp, if_neg (by rw [hq]; decide)]
      omega
    · have ih := cnt_lt (p := p) (q := q) (a := a) (n := n) (fun k hk => h k (by omega)) (by omega) hp hq
      have hn := h n (by omega)
      by_cases c : q n = true
      · rw [if_pos c, if_pos (hn c)]; omega
      · rw [if_neg c]; omega
theorem cnt_add {p q : Nat → Bool} {b : Nat} : ∀ {n : Nat}, (∀ k, k < n → k ≠ b → q k = true → p k = true) → cnt q n ≤ cnt p n + 1
  | 0, _ => Nat.le_add_left _ _
  | n + 1, h => by
    rw [cnt, cnt]
    by_cases e : n = b
    · have ih := cnt_le (p := p) (q := q) (n := n) (fun k hk => h k (by omega) (by omega))
      split <;> split <;> omega
    · have ih := cnt_add (p := p) (q := q) (b := b) (n := n) (fun k hk => h k (by omega))
      have hn := h n (by omega) e
      by_cases c : q n = true
      · rw [if_pos c, if_pos (hn c)]; omega
      · rw [if_neg c]; omega
theorem cnt_bound {p : Nat → Bool} : ∀ n : Nat, cnt p n ≤ n
  | 0 => Nat.le_refl _
  | n + 1 => by
    have := cnt_bound (p := p) n
    rw [cnt]
    split <;> omega
theorem cnt_filter (f : Int → Bool) : ∀ (l : List Int), cnt (fun k => f (l.reverse.getD k 0)) l.length = (l.filter f).length
  | [] => rfl
  | x :: l => by
    have ih := cnt_filter f l
    rw [List.length_cons, cnt, List.filter_cons, List.reverse_cons]
    have h1 : cnt (fun k => f ((l.reverse ++ [x]).getD k 0)) l.length = cnt (fun k => f (l.reverse.getD k 0)) l.length := by
      refine Nat.le_antisymm (cnt_le fun k hk h => ?_) (cnt_le fun k hk h => ?_)
      · rw [List.getD_eq_getElem?_getD, List.getElem?_append_left (by simpa using hk), ← List.getD_eq_getElem?_getD] at h; exact h
      · rw [List.getD_eq_getElem?_getD, List.getElem?_append_left (by simpa using hk), ← List.getD_eq_getElem?_getD]; exact h
    have h2 : (l.reverse ++ [x]).getD l.length 0 = x := by
      rw [List.getD_eq_getElem?_getD, List.getElem?_append_right (by simp)]
      simp
    rw [h1, ih, h2]
    split <;> simp_all
theorem cnt_filter' (f : Int → Bool) (l : List Int) : cnt (fun k => f (l.getD k 0)) l.length = (l.filter f).length := by
  have h := cnt_filter f l.reverse
  rw [List.reverse_reverse, List.length_reverse] at h
  rw [h, List.filter_reverse, List.length_reverse]
theorem set2_getD (l : List Int) {a b : Nat} {x y : Int} {k : Nat} (hb : b < l.length) (ha : a < l.length) : ((l.set a x).set b y).getD k 0 = if k = b then y else if k = a then x else l.getD k 0 := by
  rw [List.getD_eq_getElem?_getD]
  by_cases e : k = b
  · subst e
    rw [if_pos rfl, List.getElem?_set_self (by simpa using hb)]; rfl
  · rw [if_neg e, List.getElem?_set_ne (fun h => e h.symm)]
    by_cases e2 : k = a
    · subst e2
      rw [if_pos rfl, List.getElem?_set_self ha]; rfl
    · rw [if_neg e2, List.getElem?_set_ne (fun h => e2 h.symm), ← List.getD_eq_getElem?_getD]
/-- Two places change: the same goods. -/
theorem swap_perm : ∀ (l : List Int) (a b : Nat), a ≠ b → a < l.length → b < l.length → ((l.set a (l.getD b 0)).set b (l.getD a 0)).Perm l := by
  intro l a b hab ha hb
  refine List.perm_iff_count.2 fun x => ?_
  have hs : ∀ (m : List Int) (i : Nat) (v : Int), i < m.length → (m.set i v).count x + (if m.getD i 0 = x then 1 else 0) = m.count x + (if v = x then 1 else 0) := by
    intro m
    induction m with
    | nil => intro i v h; simp at h
    | cons y m ih =>
      intro i v h
      cases i with
      | zero =>
        show (v :: m).count x + (if y = x then 1 else 0) = (y :: m).count x + _
        rw [List.count_cons, List.count_cons]
        simp only [beq_iff_eq]
        omega
      | succ i =>
        have := ih i v (by simpa using h)
        show (y :: m.set i v).count x + (if m.getD i 0 = x then 1 else 0) = (y :: m).count x + _
        rw [List.count_cons, List.count_cons]
        omega
  have h1 := hs l a (l.getD b 0) ha
  have h2 := hs (l.set a (l.getD b 0)) b (l.getD a 0) (by simpa using hb)
  rw [show (l.set a (l.getD b 0)).getD b 0 = l.getD b 0 by rw [List.getD_eq_getElem?_getD, List.getElem?_set_ne hab, ← List.getD_eq_getElem?_getD]] at h2
  omega
/-- The first place of a row that is so. -/
def fstP (p : Nat → Bool) : Nat → Nat → Option Nat
  | 0, _ => none
  | m + 1, j => if p j = true then some j else fstP p m (j + 1)
theorem fstP_some {p : Nat → Bool} : ∀ {m j a : Nat}, fstP p m j = some a → j ≤ a ∧ a < j + m ∧ p a = true ∧ ∀ k, j ≤ k → k < a → p k = false
  | 0, _, _, h => by cases h
  | m + 1, j, a, h => by
    rw [fstP] at h
    by_cases c : p j = true
    · rw [if_pos c] at h
      obtain rfl := Option.some.inj h
      exact ⟨Nat.le_refl _, by omega, c, fun k h1 h2 => by omega⟩
    · rw [if_neg c] at h
      obtain ⟨h1, h2, h3, h4⟩ := fstP_some h
      refine ⟨by omega, by omega, h3, fun k k1 k2 => ?_⟩
      by_cases e : k = j
      · subst e; simpa using c
      · exact h4 k (by omega) k2
theorem fstP_none {p : Nat → Bool} : ∀ {m j : Nat}, fstP p m j = none → ∀ k, j ≤ k → k < j + m → p k = false
  | 0, _, _, k, h1, h2 => by omega
  | m + 1, j, h, k, h1, h2 => by
    rw [fstP] at h
    by_cases c : p j = true
    · rw [if_pos c] at h; cases h
    · rw [if_neg c] at h
      by_cases e : k = j
      · subst e; simpa using c
      · exact fstP_none h k (by omega) (by omega)
def emp (now want : List Int) (k : Nat) : Bool := decide (want.getD k 0 ≠ 0) && decide (now.getD k 0 = 0)
def off (now want : List Int) (k : Nat) : Bool := decide (now.getD k 0 ≠ want.getD k 0)
def mis (now want : List Int) (k : Nat) : Bool := decide (now.getD k 0 ≠ 0) && decide (now.getD k 0 ≠ want.getD k 0)
/-- The next move, where not all is as wanted. -/
def nxt (now want : List Int) : Option (Int × Int) := match fstP (emp now want) want.length 0 with
  | some k => some (idxI now (want.getD k 0), (k : Int))
  | none => match fstP (off now want) want.length 0 with
    | some k => some ((k : Int), idxI now 0)
    | none => none
theorem ev_next_i1 (now want : List Int) (hl : now.length = want.length) (h9 : now.length ≤ 9) {a : Nat} : ∀ (m j : Nat), j + m = want.length → fstP (off now want) m j = some a → Ev (fun k => impl_nextMove.l1 k now want (j : Int)) ((a : Int), idxI now 0)
  | 0, j, hj, h => by cases h
  | m + 1, j, hj, h => by
    have hw : wrap64 ((j : Int) + 1) = ((j + 1 : Nat) : Int) := by unfold wrap64; omega
    rw [fstP] at h
    refine Ev.round (fun k => by simp only [impl_nextMove.l1]; rw [if_pos (show (0 : Int) ≤ (j : Int) by omega), hw]) ?_
    refine Ev.ite_pos (by omega) (Ev.ite_pos (by omega) ?_)
    by_cases c : off now want j = true
    · rw [if_pos c] at h
      obtain rfl := Option.some.inj h
      unfold off at c
      rw [decide_eq_true_eq] at c
      exact Ev.ite_neg (by unfold rd; rw [Int.toNat_natCast]; exact c) (Ev.bind (ev_Index now 0 (by omega)) (Ev.now _))
    · rw [if_neg c] at h
      unfold off at c
      rw [decide_eq_true_eq] at c
      exact Ev.ite_pos (by unfold rd; rw [Int.toNat_natCast]; exact Classical.byContradiction c) (ev_next_i1 now want hl h9 m (j + 1) (by omega) h)
theorem ev_next_i0 (now want : List Int) (hl : now.length = want.length) (h9 : now.length ≤ 9) {r : Int × Int} (hr : nxt now want = some r) : ∀ (m j : Nat), j + m = want.length → fstP (emp now want) want.length 0 = fstP (emp now want) m j → Ev (fun k => impl_nextMove.l0 k now want want (want.length : Int) (j : Int)) r
  | 0, j, hj, h => by
    refine Ev.round (fun k => by simp only [impl_nextMove.l0]; rw [if_neg (show ¬ (j : Int) < (want.length : Int) by omega)]) ?_
    unfold nxt at hr
    rw [h] at hr
    cases hf : fstP (off now want) want.length 0 with
    | none => rw [hf] at hr; cases hr
    | some a =>
      rw [hf] at hr
      obtain rfl := Option.some.inj hr
      exact ev_next_i1 now want hl h9 want.length 0 (by omega) hf
  | m + 1, j, hj, h => by
    have hw : wrap64 ((j : Int) + 1) = ((j + 1 : Nat) : Int) := by unfold wrap64; omega
    have hrd : ∀ l : List Int, rd l (j : Int) = l.getD j 0 := fun l => by unfold rd; rw [Int.toNat_natCast]
    refine Ev.round (fun k => by simp only [impl_nextMove.l0]; rw [if_pos (show (j : Int) < (want.length : Int) by omega), hw]) ?_
    refine Ev.ite_pos (by omega) (Ev.ite_pos (by omega) ?_)
    rw [fstP] at h
    by_cases c : emp now want j = true
    · rw [if_pos c] at h
      unfold nxt at hr
      rw [h] at hr
      obtain rfl := Option.some.inj hr
      unfold emp at c
      rw [Bool.and_eq_true, decide_eq_true_eq, decide_eq_true_eq] at c
      refine Ev.ite_neg (by rw [hrd]; exact c.1) (Ev.ite_pos (by omega) (Ev.ite_pos (by rw [hrd]; exact c.2) ?_))
      rw [hrd]
      exact Ev.bind (ev_Index now _ (by omega)) (Ev.now _)
    · rw [if_neg c] at h
      have ih := ev_next_i0 now want hl h9 hr m (j + 1) (by omega) h
      unfold emp at c
      rw [Bool.and_eq_true, decide_eq_true_eq, decide_eq_true_eq] at c
      by_cases d : want.getD j 0 = 0
      · exact Ev.ite_pos (by rw [hrd]; exact d) ih
      · exact Ev.ite_neg (by rw [hrd]; exact d) (Ev.ite_pos (by omega) (Ev.ite_neg (by rw [hrd]; exact fun e => c ⟨d, e⟩) ih))
theorem ev_next_s1 (now want : List Int) (hl : now.length = want.length) (h9 : now.length ≤ 9) (hp : ∀ x ∈ now, 0 ≤ x) (hno : fstP (emp now want) want.length 0 = none) : ∀ (m j : Nat), j + m = want.length →
    Ev (fun k => spec_l10Next.l1 k now want now (now.length : Int) (j : Int)) (match fstP (off now want) m j with | some a => ((a : Int), idxI now 0) | none => (-1, 0))
  | 0, j, hj => by
    refine Ev.round (f := fun _ => some (-1, 0)) (fun k => ?_) (Ev.now _)
    simp only [spec_l10Next.l1]
    rw [if_neg (by omega)]
  | m + 1, j, hj => by
    have hw : wrap64 ((j : Int) + 1) = ((j + 1 : Nat) : Int) := by unfold wrap64; omega
    have hrd : ∀ l : List Int, rd l (j : Int) = l.getD j 0 := fun l => by unfold rd; rw [Int.toNat_natCast]
    have hx := hp (now.getD j 0) (getD_mem 0 (by omega))
    have he := fstP_none hno j (by omega) (by omega)
    unfold emp at he
    have ih := ev_next_s1 now want hl h9 hp hno m (j + 1) (by omega)
    refine Ev.round (fun k => by simp only [spec_l10Next.l1]; rw [if_pos (show (j : Int) < (now.length : Int) by omega), hw]) ?_
    refine Ev.ite_pos (by omega) (Ev.ite_pos (by omega) ?_)
    rw [fstP]
    by_cases c : off now want j = true
    · rw [if_pos c]
      unfold off at c
      rw [decide_eq_true_eq] at c
      have h0 : ¬ now.getD j 0 = 0 := fun e => by
        rw [e] at he c
        simp at he
        exact c he.symm
      exact Ev.ite_pos (by rw [hrd]; omega) (Ev.ite_pos (by omega) (Ev.ite_neg (by rw [hrd, hrd]; exact fun e => c e.symm) (Ev.bind (ev_l10Spot now 0 (by omega)) (Ev.now _))))
    · rw [if_neg c]
      unfold off at c
      rw [decide_eq_true_eq] at c
      by_cases d : rd now (j : Int) > 0
      · exact Ev.ite_pos d (Ev.ite_pos (by omega) (Ev.ite_pos (by rw [hrd, hrd]; exact (Classical.byContradiction c).symm) ih))
      · exact Ev.ite_neg d ih
theorem ev_next_s0 (now want : List Int) (hl : now.length = want.length) (h9 : now.length ≤ 9) (hp : ∀ x ∈ now, 0 ≤ x) (hq : ∀ x ∈ want, 0 ≤ x) : ∀ (m j : Nat), j + m = want.length → fstP (emp now want) want.length 0 = fstP (emp now want) m j →
    Ev (fun k => spec_l10Next.l0 k now want want (want.length : Int) (j : Int)) (match nxt now want with | some r => r | none => (-1, 0))
  | 0, j, hj, h => by
    refine Ev.round (fun k => by simp only [spec_l10Next.l0]; rw [if_neg (show ¬ (j : Int) < (want.length : Int) by omega)]) ?_
    have hs := ev_next_s1 now want hl h9 hp h want.length 0 (by omega)
    refine Ev.cast hs ?_
    unfold nxt
    rw [h]
    dsimp only [fstP]
    cases fstP (off now want) want.length 0 <;> rfl
  | m + 1, j, hj, h => by
    have hw : wrap64 ((j : Int) + 1) = ((j + 1 : Nat) : Int) := by unfold wrap64; omega
    have hrd : ∀ l : List Int, rd l (j : Int) = l.getD j 0 := fun l => by unfold rd; rw [Int.toNat_natCast]
    have hx := hq (want.getD j 0) (getD_mem 0 (by omega))
    refine Ev.round (fun k => by simp only [spec_l10Next.l0]; rw [if_pos (show (j : Int) < (want.length : Int) by omega), hw]) ?_
    refine Ev.ite_pos (by omega) (Ev.ite_pos (by omega) ?_)
    rw [fstP] at h
    by_cases c : emp now want j = true
    · rw [if_pos c] at h
      have hr : nxt now want = some (idxI now (want.getD j 0), (j : Int)) := by unfold nxt; rw [h]
      rw [hr]
      unfold emp at c
      rw [Bool.and_eq_true, decide_eq_true_eq, decide_eq_true_eq] at c
      refine Ev.ite_pos (by rw [hrd]; omega) (Ev.ite_pos (by omega) (Ev.ite_pos (by rw [hrd]; exact c.2) ?_))
      rw [hrd]
      exact Ev.bind (ev_l10Spot now _ (by omega)) (Ev.now _)
    · rw [if_neg c] at h
      have ih := ev_next_s0 now want hl h9 hp hq m (j + 1) (by omega) h
      unfold emp at c
      rw [Bool.and_eq_true, decide_eq_true_eq, decide_eq_true_eq] at c
      by_cases d : rd want (j : Int) > 0
      · exact Ev.ite_pos d (Ev.ite_pos (by omega) (Ev.ite_neg (by rw [hrd]; exact fun e => c ⟨by rw [← hrd want]; omega, e⟩) ih))
      · exact Ev.ite_neg d ih
theorem ev_next_i (now want : List Int) (hl : now.length = want.length) (h9 : now.length ≤ 9) {r : Int × Int} (hr : nxt now want = some r) : Ev (fun k => impl_nextMove.f k now want) r := ev_next_i0 now want hl h9 hr want.length 0 (by omega) rfl
theorem ev_next_s (now want : List Int) (hl : now.length = want.length) (h9 : now.length ≤ 9) (hp : ∀ x ∈ now, 0 ≤ x) (hq : ∀ x ∈ want, 0 ≤ x) : Ev (fun k => spec_l10Next.f k now want) (match nxt now want with | some r => r | none => (-1, 0)) := ev_next_s0 now want hl h9 hp hq want.length 0 (by omega) rfl
/-- All is as wanted just where there is no next move. -/
theorem nxt_none {now want : List Int} (hl : now.length = want.length) : nxt now want = none ↔ now = want := by
  have hext : (∀ k, k < want.length → now.getD k 0 = want.getD k 0) → now = want := fun h => by
    apply List.ext_getElem hl
    intro i h1 h2
    have := h i h2
    rw [List.getD_eq_getElem?_getD, List.getD_eq_getElem?_getD, List.getElem?_eq_getElem h1, List.getElem?_eq_getElem h2] at this
    exact this
  constructor
  · intro h
    unfold nxt at h
    cases h1 : fstP (emp now want) want.length 0 with
    | some k => rw [h1] at h; cases h
    | none =>
      rw [h1] at h
      cases h2 : fstP (off now want) want.length 0 with
      | some k => rw [h2] at h; cases h
      | none => exact hext fun k hk => by have := fstP_none h2 k (by omega) (by omega); unfold off at this; simpa using this
  · rintro rfl
    have e1 : fstP (emp now now) now.length 0 = none := by
      cases h : fstP (emp now now) now.length 0 with
      | none => rfl
      | some k =>
        have := (fstP_some h).2.2.1
        unfold emp at this
        rw [Bool.and_eq_true, decide_eq_true_eq, decide_eq_true_eq] at this
        exact absurd this.2 this.1
    have e2 : fstP (off now now) now.length 0 = none := by
      cases h : fstP (off now now) now.length 0 with
      | none => rfl
      | some k =>
        have := (fstP_some h).2.2.1
        unfold off at this
        rw [decide_eq_true_eq] at this
        exact absurd rfl this
    unfold nxt
    rw [e1, e2]
theorem noTwice_at : ∀ (l pre : List Int), noTwice pre l = true → ∀ j, j < l.length → l.getD j 0 ≠ 0 → ¬ l.getD j 0 ∈ pre ++ l.take j
  | [], _, _, j, hj, _ => by simp at hj
  | x :: l, pre, h, 0, _, h0 => by
    rw [noTwice, Bool.and_eq_true, Bool.or_eq_true, decide_eq_true_eq, Bool.not_eq_true', decide_eq_false_iff_not] at h
    have h0' : x ≠ 0 := h0
    show ¬ x ∈ pre ++ (x :: l).take 0
    rw [List.take_zero, List.append_nil]
    exact h.1.resolve_left h0'
  | x :: l, pre, h, j + 1, hj, h0 => by
    rw [noTwice, Bool.and_eq_true] at h
    have ih := noTwice_at l (pre ++ [x]) h.2 j (by simpa using hj) h0
    show ¬ l.getD j 0 ∈ pre ++ (x :: l).take (j + 1)
    rw [List.take_succ_cons]
    simpa using ih
theorem good_once {l : List Int} (h : noTwice [] l = true) {i j : Nat} (hi : i < l.length) (hj : j < l.length) (h0 : l.getD i 0 ≠ 0) (e : l.getD i 0 = l.getD j 0) : i = j := by
  have key : ∀ {i j : Nat}, i < l.length → j < l.length → l.getD j 0 ≠ 0 → l.getD i 0 = l.getD j 0 → ¬ i < j := by
    intro i j hi hj h0 e hlt
    refine noTwice_at l [] h j hj h0 ?_
    rw [List.nil_append, ← e, List.getD_eq_getElem?_getD, List.getElem?_eq_getElem hi]
    exact List.mem_take_iff_getElem.2 ⟨i, by omega, rfl⟩
  have h1 := key hi hj (e ▸ h0) e
  have h2 := key hj hi h0 e.symm
  omega
def mu (now want : List Int) : Nat := 2 * cnt (mis now want) want.length + (if (fstP (emp now want) want.length 0).isSome then 0 else 1)
theorem mu_le (now want : List Int) (h : want.length ≤ 9) : mu now want ≤ 19 := by
  have := cnt_bound (p := mis now want) want.length
  unfold mu
  split <;> omega
theorem rd_nat (l : List Int) (k : Nat) : rd l (k : Int) = l.getD k 0 := by unfold rd; rw [Int.toNat_natCast]
theorem plan_step {now want : List Int} (hp : now.Perm want) (hw : noTwice [] want = true) (hz : (0 : Int) ∈ want) {f t : Int} (h : nxt now want = some (f, t)) :
    0 ≤ f ∧ ∃ now', doM now f t = some now' ∧ now'.Perm want ∧ mu now' want < mu now want := by
  have hl := hp.length_eq
  unfold nxt at h
  cases h1 : fstP (emp now want) want.length 0 with
  | some k =>
    rw [h1] at h
    have h2 := Option.some.inj h
    obtain ⟨_, hk, hk3, _⟩ := fstP_some h1
    unfold emp at hk3
    rw [Bool.and_eq_true, decide_eq_true_eq, decide_eq_true_eq] at hk3
    have hg : want.getD k 0 ∈ now := hp.mem_iff.2 (getD_mem 0 (by omega))
    obtain ⟨q0, q1, q2⟩ := idxI_at hg
    have ef : f = idxI now (want.getD k 0) := (congrArg Prod.fst h2).symm
    have et : t = (k : Int) := (congrArg Prod.snd h2).symm
    rw [← ef] at q0 q1 q2
    subst et
    have q2' : now.getD f.toNat 0 = want.getD k 0 := q2
    have hne : f.toNat ≠ k := fun e => by rw [e, hk3.2] at q2'; exact hk3.1 q2'.symm
    refine ⟨q0, (now.set f.toNat 0).set k (want.getD k 0), ?_, ?_, ?_⟩
    · unfold doM
      rw [if_pos ⟨⟨⟨q0, q1⟩, by omega, by omega⟩, by rw [q2]; exact hk3.1, by rw [rd_nat]; exact hk3.2⟩, Int.toNat_natCast, q2]
    · have hs := swap_perm now f.toNat k hne (by omega) (by omega)
      rw [hk3.2, q2'] at hs
      exact hs.trans hp
    · have hlt : cnt (mis ((now.set f.toNat 0).set k (want.getD k 0)) want) want.length < cnt (mis now want) want.length := by
        refine cnt_lt (a := f.toNat) (fun j hj hm => ?_) (by omega) ?_ ?_
        · unfold mis at hm ⊢
          rw [set2_getD now (by omega) (by omega)] at hm
          by_cases e : j = k
          · rw [if_pos e, e] at hm; simp at hm
          · rw [if_neg e] at hm
            by_cases e2 : j = f.toNat
            · rw [if_pos e2] at hm; simp at hm
            · rwa [if_neg e2] at hm
        · unfold mis
          rw [q2', Bool.and_eq_true, decide_eq_true_eq, decide_eq_true_eq]
          exact ⟨hk3.1, fun e => hne (good_once hw (by omega) (by omega) (by rw [← e]; exact hk3.1) e.symm)⟩
        · unfold mis
          rw [set2_getD now (by omega) (by omega), if_neg hne, if_pos rfl]
          simp
      unfold mu
      rw [h1, Option.isSome_some, if_pos rfl]
      split <;> omega
  | none =>
    rw [h1] at h
    cases h3 : fstP (off now want) want.length 0 with
    | none => rw [h3] at h; cases h
    | some k =>
      rw [h3] at h
      have h2 := Option.some.inj h
      obtain ⟨_, hk, hk3, _⟩ := fstP_some h3
      have ef : f = (k : Int) := (congrArg Prod.fst h2).symm
      have et : t = idxI now 0 := (congrArg Prod.snd h2).symm
      obtain ⟨q0, q1, q2⟩ := idxI_at (hp.mem_iff.2 hz)
      rw [← et] at q0 q1 q2
      subst ef
      have q2' : now.getD t.toNat 0 = 0 := q2
      have hemp : ∀ j, j < want.length → want.getD j 0 ≠ 0 → now.getD j 0 ≠ 0 := fun j hj h0 h0' => by
        have := fstP_none h1 j (by omega) (by omega)
        unfold emp at this
        rw [decide_eq_true h0, decide_eq_true h0'] at this
        cases this
      unfold off at hk3
      rw [decide_eq_true_eq] at hk3
      have hkn : now.getD k 0 ≠ 0 := fun e => by
        by_cases e2 : want.getD k 0 = 0
        · exact hk3 (by rw [e, e2])
        · exact hemp k (by omega) e2 e
      have hwt : want.getD t.toNat 0 = 0 := Classical.byContradiction fun e => hemp t.toNat (by omega) e q2'
      have hwk : want.getD k 0 ≠ 0 := fun e => by
        have c1 := cnt_filter' (fun x => decide (x ≠ 0)) now
        have c2 := cnt_filter' (fun x => decide (x ≠ 0)) want
        have c3 := (hp.filter fun x => decide (x ≠ 0)).length_eq
        have c4 : cnt (fun j => decide (want.getD j 0 ≠ 0)) want.length < cnt (fun j => decide (now.getD j 0 ≠ 0)) want.length :=
          cnt_lt (a := k) (fun j hj hm => by rw [decide_eq_true_eq] at hm ⊢; exact hemp j hj hm) (by omega) (by simpa using hkn) (by simpa using e)
        rw [hl] at c1
        omega
      have hne : k ≠ t.toNat := fun e => by rw [e] at hkn; exact hkn q2'
      refine ⟨by omega, (now.set k 0).set t.toNat (now.getD k 0), ?_, ?_, ?_⟩
      · unfold doM
        rw [if_pos ⟨⟨⟨by omega, by omega⟩, q0, q1⟩, by rw [rd_nat]; exact hkn, q2⟩, Int.toNat_natCast, rd_nat]
      · have hs := swap_perm now k t.toNat hne (by omega) (by omega)
        rw [q2'] at hs
        exact hs.trans hp
      · have hle : cnt (mis ((now.set k 0).set t.toNat (now.getD k 0)) want) want.length ≤ cnt (mis now want) want.length := by
          have a1 : cnt (fun j => mis now want j && decide (j ≠ k)) want.length < cnt (mis now want) want.length :=
            cnt_lt (a := k) (fun j hj hm => by rw [Bool.and_eq_true] at hm; exact hm.1) (by omega) (by unfold mis; rw [decide_eq_true hkn, decide_eq_true hk3]; rfl) (by simp)
          have a2 : cnt (mis ((now.set k 0).set t.toNat (now.getD k 0)) want) want.length ≤ cnt (fun j => mis now want j && decide (j ≠ k)) want.length + 1 :=
            cnt_add (b := t.toNat) (fun j hj hjt hm => by
              unfold mis at hm ⊢
              rw [set2_getD now (by omega) (by omega), if_neg hjt] at hm
              by_cases e2 : j = k
              · rw [if_pos e2] at hm; simp at hm
              · rw [if_neg e2] at hm
                rw [hm, decide_eq_true e2]; rfl)
          omega
        have hfl : (fstP (emp ((now.set k 0).set t.toNat (now.getD k 0)) want) want.length 0).isSome = true := by
          cases hf : fstP (emp ((now.set k 0).set t.toNat (now.getD k 0)) want) want.length 0 with
          | some _ => rfl
          | none =>
            have := fstP_none hf k (by omega) (by omega)
            unfold emp at this
            rw [set2_getD now (by omega) (by omega), if_neg hne, if_pos rfl, decide_eq_true hwk] at this
            simp at this
        unfold mu
        rw [h1, hfl, if_pos rfl, if_neg (by decide)]
        omega
def nx (now want : List Int) : Int × Int := match nxt now want with
  | some r => r
  | none => (-1, 0)
theorem plan_same (want : List Int) (hw9 : want.length ≤ 9) (hw : noTwice [] want = true) (hz : (0 : Int) ∈ want) (hq : ∀ x ∈ want, 0 ≤ x) : ∀ (m : Nat) (now : List Int) (out : List S39), mu now want ≤ m → now.Perm want → out.length + m ≤ 1000 →
    ∃ r : List S39 × Bool, r.1.length ≤ 1000 ∧ Ev (fun k => spec_PlanMoves.l0 k want now out (nx now want).1 (nx now want).2) r ∧ Ev (fun k => impl_PlanMoves.l0 k want out now) r
  | m, now, out, hm, hp, ho => by
    have hl := hp.length_eq
    have heq := ev_Equal now want (by omega)
    cases hn : nxt now want with
    | none =>
      have e := (nxt_none hl).1 hn
      have hnx : nx now want = (-1, 0) := by unfold nx; rw [hn]
      refine ⟨(out, true), by show out.length ≤ 1000; omega, ?_, ?_⟩
      · rw [hnx]
        refine Ev.round (f := fun _ => some _) (fun k => ?_) (Ev.now _)
        simp only [spec_PlanMoves.l0]
        rw [if_neg (by decide)]
      · refine Ev.round (fun k => by simp only [impl_PlanMoves.l0]; rfl) ?_
        exact Ev.bind heq (Ev.ite_pos (by simpa using e) (Ev.now _))
    | some ft =>
      obtain ⟨f, t⟩ := ft
      obtain ⟨hf, now', hdo, hp', hmu⟩ := plan_step hp hw hz hn
      obtain ⟨m, rfl⟩ : ∃ q, m = q + 1 := ⟨m - 1, by omega⟩
      have hnx : nx now want = (f, t) := by unfold nx; rw [hn]
      obtain ⟨r, hr, e1, e2⟩ := plan_same want hw9 hw hz hq m now' (out ++ [⟨f, t⟩]) (by omega) hp' (by simp; omega)
      have hne : ¬ now = want := fun e => by rw [(nxt_none hl).2 e] at hn; cases hn
      have hl' := hp'.length_eq
      refine ⟨r, hr, ?_, ?_⟩
      · rw [hnx]
        refine Ev.round (fun k => by simp only [spec_PlanMoves.l0]; rw [if_pos (show f ≥ 0 from hf)]) ?_
        refine Ev.bindc (l10Do_eq now f t) (Ev.ite_pos (by omega) ?_)
        have hdz : (doZ now f t).2 = now' := by unfold doZ; rw [hdo]
        rw [hdz]
        exact Ev.bind (ev_next_s now' want hl' (by omega) (fun x hx => hq x (hp'.mem_iff.1 hx)) hq) e1
      · refine Ev.round (fun k => by simp only [impl_PlanMoves.l0]; rfl) ?_
        refine Ev.bind heq (Ev.ite_neg (by simpa using hne) (Ev.bind (ev_next_i now want hl (by omega) hn) (Ev.ite_pos (by omega) (Ev.bindc (moved_eq now f t (by omega)) ?_))))
        have hmz : (movedZ now f t).1 = now' := by unfold movedZ; rw [hdo]
        rw [hmz]
        exact e2
theorem same_PlanMoves (a b : List Int) (ha : a.length ≤ 1048576) (hb : b.length ≤ 1048576) : ∃ r : List S39 × Bool, r.1.length ≤ 1000 ∧ Ev (fun k => spec_PlanMoves.f k a b) r ∧ Ev (fun k => impl_PlanMoves.f k a b) r := by
  unfold spec_PlanMoves.f impl_PlanMoves.f
  by_cases h : alikeB a b = true
  · obtain ⟨h1, h2, h3, h4, h5, h6, h7⟩ := alikeB_ok h
    have hlb := h7.length_eq
    obtain ⟨r, hr, e1, e2⟩ := plan_same b (by omega) h5 h6 (fun x hx => (h3 x hx).1) 19 a [] (mu_le a b (by omega)) h7 (by simp)
    refine ⟨r, hr, Ev.bind (ev_l10Both a b ha hb) (Ev.ite_pos h (Ev.bindc rfl (Ev.ite_pos (by simp; omega) (Ev.bindc rfl ?_)))), Ev.bind (ev_areAlike a b ha hb) (Ev.ite_pos h (Ev.bindc (a := a) ?_ e2))⟩
    · exact Ev.bind (ev_next_s a b hlb (by omega) (fun x hx => (h2 x hx).1) (fun x hx => (h3 x hx).1)) e1
    · unfold slices_Clone_int_int.f
      rw [if_pos (by omega)]
  · exact ⟨([], false), by simp, Ev.bind (ev_l10Both a b ha hb) (Ev.ite_neg h (Ev.now _)), Ev.bind (ev_areAlike a b ha hb) (Ev.ite_neg h (Ev.now _))⟩
def upM (a : Int) : Nat → List S39
  | 0 => []
  | n + 1 => ⟨a, a + 1⟩ :: upM (a + 2) n
theorem ev_markMoveT_l : ∀ (suf pre : List S39) (a : Int), 0 ≤ a → a + 2 * suf.length ≤ 4611686018427387904 → pre.length + suf.length ≤ 4611686018427387904 → Ev (fun k => laws_markMoveS.l0 k (pre ++ suf) a (pre.length : Int)) (a + 2 * suf.length, pre ++ upM a suf.length)
  | [], pre, a, h0, h1, h2 => by
    refine Ev.round (f := fun _ => some (a, pre ++ [])) (fun k => ?_) (Ev.cast (Ev.now _) (by simp [upM]))
    simp only [laws_markMoveS.l0]
    rw [if_neg (by simp)]
  | x :: suf, pre, a, h0, h1, h2 => by
    rw [List.length_cons] at h1 h2
    have ih := ev_markMoveT_l suf (pre ++ [⟨a, a + 1⟩]) (a + 2) (by omega) (by omega) (by simp; omega)
    have w1 : wrap64 (a + 1) = a + 1 := by unfold wrap64; omega
    have w2 : wrap64 (a + 1 + 1) = a + 2 := by unfold wrap64; omega
    have w3 : wrap64 ((pre.length : Int) + 1) = ((pre ++ [(⟨a, a + 1⟩ : S39)]).length : Int) := by unfold wrap64; simp; omega
    refine Ev.round (fun k => ?_) (Ev.cast ih (by rw [List.length_cons, upM]; simp; omega))
    simp only [laws_markMoveS.l0]
    have s1 : ∀ (u v : S39), (pre ++ u :: suf).set pre.length v = pre ++ v :: suf := fun u v => by rw [List.set_append_right _ _ (Nat.le_refl _), Nat.sub_self, List.set_cons_zero]
    rw [if_pos (lt_mid _ _ _), if_pos (by omega), Option.bind_some, Int.toNat_natCast, s1, s1, rdM_mid, w1, w2, w3]
    simp
theorem ev_markMoveT (l : List S39) (a : Int) (h0 : 0 ≤ a) (h1 : a + 2 * l.length ≤ 4611686018427387904) : Ev (fun k => laws_markMoveS.f k l a) (a + 2 * l.length, upM a l.length) := ev_markMoveT_l l [] a h0 h1 (by simp; omega)
theorem ev_heldMoveT_l : ∀ (n : Nat) (pre : List S39) (a : Int), 0 ≤ a → a + 2 * n ≤ 4611686018427387904 → pre.length + n ≤ 4611686018427387904 → Ev (fun k => laws_heldMoveS.l0 k (pre ++ upM a n) a (pre.length : Int)) (a + 2 * n)
  | 0, pre, a, h0, h1, h2 => by
    refine Ev.round (f := fun _ => some a) (fun k => ?_) (Ev.cast (Ev.now _) (by simp))
    simp only [laws_heldMoveS.l0]
    rw [if_neg (by simp [upM])]
  | n + 1, pre, a, h0, h1, h2 => by
    have ih := ev_heldMoveT_l n (pre ++ [⟨a, a + 1⟩]) (a + 2) (by omega) (by omega) (by simp; omega)
    have w1 : wrap64 (a + 1) = a + 1 := by unfold wrap64; omega
    have w2 : wrap64 (a + 1 + 1) = a + 2 := by unfold wrap64; omega
    have w3 : wrap64 ((pre.length : Int) + 1) = ((pre ++ [(⟨a, a + 1⟩ : S39)]).length : Int) := by unfold wrap64; simp; omega
    refine Ev.round (fun k => ?_) (Ev.cast ih (by omega))
    rw [upM]
    simp only [laws_heldMoveS.l0]
    rw [if_pos (lt_mid _ _ _), if_pos (by omega), rdM_mid, if_pos rfl, w1, if_pos rfl, w2, w3]
    simp
theorem ev_heldMoveT (a : Int) (n : Nat) (h0 : 0 ≤ a) (h1 : a + 2 * n ≤ 4611686018427387904) : Ev (fun k => laws_heldMoveS.f k (upM a n) a) (a + 2 * n) := ev_heldMoveT_l n [] a h0 h1 (by simp; omega)
theorem clone_eq (l : List Int) (h : l.length ≤ 1048576) : slices_Clone_int_int.f l = some l := by
  unfold slices_Clone_int_int.f
  rw [if_pos (by omega)]
theorem same_NewJob (a b : List Int) (ha : a.length ≤ 1048576) (hb : b.length ≤ 1048576) : ∃ (p q : List Int) (m n : List S39) (f : Int) (y : Bool), (p.length ≤ 1048576 ∧ q.length ≤ 1048576 ∧ m.length ≤ 1000 ∧ n.length ≤ 1000) ∧ Ev (fun k => spec_NewJob.f k a b) (p, q, m, n, f, y) ∧ Ev (fun k => impl_NewJob.f k a b) (p, q, m, n, f, y) := by
  obtain ⟨⟨g, v⟩, hgl, hs, hi⟩ := same_PlanMoves a b ha hb
  replace hgl : g.length ≤ 1000 := hgl
  unfold spec_NewJob.f impl_NewJob.f
  have ho : spec_l16Own.f a b g [] 0 = some (a, b, g, [], 0) := by
    unfold spec_l16Own.f
    rw [if_pos (by simp; omega)]
  cases v with
  | true =>
    refine ⟨a, b, g, [], 0, true, ⟨ha, hb, hgl, by simp⟩, Ev.bind hs (Ev.ite_pos rfl (Ev.bindc ho (Ev.now _))), Ev.bind hi (Ev.ite_pos rfl (Ev.bindc (clone_eq a ha) (Ev.bindc (clone_eq b hb) (Ev.now _))))⟩
  | false =>
    exact ⟨[], [], [], [], 0, false, ⟨by simp, by simp, by simp, by simp⟩, Ev.bind hs (Ev.ite_neg (by simp) (Ev.now _)), Ev.bind hi (Ev.ite_neg (by simp) (Ev.now _))⟩
theorem ev_eqJobS (p q : List Int) (m n : List S39) (f : Int) (hp : p.length ≤ 1048576) (hq : q.length ≤ 1048576) (hm : m.length ≤ 1000) (hn : n.length ≤ 1000) : Ev (fun k => laws_eqJob.f k p q m n f p q m n f) true := by
  unfold laws_eqJob.f
  have h1 := ev_eqIntS p p (by omega)
  have h2 := ev_eqIntS q q (by omega)
  rw [decide_eq_true rfl] at h1 h2
  exact Ev.bind h1 (Ev.ite_pos rfl (Ev.bind h2 (Ev.ite_pos rfl (Ev.bind (ev_eqMoveS m (by omega)) (Ev.ite_pos rfl (Ev.bind (ev_eqMoveS n (by omega)) (Ev.ite_pos rfl (Ev.ite_pos rfl (Ev.now _)))))))))
theorem ev_markJobS (p q : List Int) (m n : List S39) (f : Int) (hp : p.length ≤ 1048576) (hq : q.length ≤ 1048576) (hm : m.length ≤ 1000) (hn : n.length ≤ 1000) : Ev (fun k => laws_markJob.f k p q m n f 1) (1 + p.length + q.length + 2 * m.length + 2 * n.length, upFrom 1 p.length, upFrom (1 + p.length) q.length, upM (1 + p.length + q.length) m.length, upM (1 + p.length + q.length + 2 * m.length) n.length) := by
  unfold laws_markJob.f
  exact Ev.bind (ev_markIntS p 1 (by omega) (by omega)) (Ev.bind (ev_markIntS q (1 + p.length) (by omega) (by omega)) (Ev.bind (ev_markMoveT m (1 + p.length + q.length) (by omega) (by omega)) (Ev.bind (ev_markMoveT n (1 + p.length + q.length + 2 * m.length) (by omega) (by omega)) (Ev.now _))))
theorem ev_heldJobS (p q m n : Nat) (f : Int) (hp : p ≤ 1048576) (hq : q ≤ 1048576) (hm : m ≤ 1000) (hn : n ≤ 1000) : Ev (fun k => laws_heldJob.f k (upFrom 1 p) (upFrom (1 + p) q) (upM (1 + p + q) m) (upM (1 + p + q + 2 * m) n) f 1) (1 + (p : Int) + q + 2 * m + 2 * n) := by
  unfold laws_heldJob.f
  exact Ev.bind (ev_heldIntS 1 p (by omega) (by omega)) (Ev.ite_neg (by omega) (Ev.bind (ev_heldIntS (1 + p) q (by omega) (by omega)) (Ev.ite_neg (by omega) (Ev.bind (ev_heldMoveT (1 + p + q) m (by omega) (by omega)) (Ev.ite_neg (by omega) (Ev.bind (ev_heldMoveT (1 + p + q + 2 * m) n (by omega) (by omega)) (Ev.ite_neg (by omega) (Ev.now _))))))))
end Go.Proofs.Ytccnpnlmihcmlaa.Pure
