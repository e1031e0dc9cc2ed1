import Derived.Test.YtdbepjnapjjlcaaGLPushWay0
import Derived.Test.YtdbepjnapjjlcaaGLPushWay1
import Derived.Test.YtdbepjnapjjlcaaGLPushWay2
import Derived.Test.YtdbepjnapjjlcaaGLPushWay3
import Derived.Test.YtdbepjnapjjlcaaGLPushWay4
import Derived.Test.YtdbepjnapjjlcaaGLPushWay5
import Derived.Test.YtdbepjnapjjlcaaGLPushWay6
import Derived.Test.YtdbepjnapjjlcaaGLPushWay7
import Derived.Test.YtdbepjnapjjlcaaGLPushWay8
namespace Go.Proofs.Ytdbepjnapjjlcaa.Pure
open Go.RowKit Go.Proofs.Ytdbepjnapjjlcaa.GLPushWay Go.Proofs.YtdbepjnapjjlcaaW.PrintWords Go.Proofs.YtdbepjnapjjlcaaW.PrintLast Go.Proofs.YtdbepjnapjjlcaaW.PrintMore Go.Proofs.YtdbepjnapjjlcaaW.PrintOwn
set_option linter.unusedVariables false
set_option linter.unusedSimpArgs false
theorem Ev.bindc {α β : Type} {g : Option α} {f : Nat → α → Option β} {a : α} {r : β} (h : g = some a) (k : Ev (fun n => f n a) r) : Ev (fun n => g.bind (f n)) r := by
  subst h
  exact k
/-- One round. -/
theorem Ev.round {α : Type} {g f : Nat → Option α} {r : α} (h : ∀ k, g (k + 1) = f k) (k : Ev f r) : Ev g r := Ev.step h k
theorem Ev.eqv {α : Type} {g f : Nat → Option α} {r : α} (h : ∀ k, g k = f k) (k : Ev f r) : Ev g r := Ev.congr h k
theorem Ev.cast {α : Type} {g : Nat → Option α} {r r' : α} (h : Ev g r) (e : r = r') : Ev g r' := e ▸ h
theorem Ev.ite_pos {α : Type} {c : Prop} [Decidable c] {g f : Nat → Option α} {r : α} (hc : c) (k : Ev g r) : Ev (fun n => if c then g n else f n) r := by
  refine Ev.eqv (fun n => ?_) k
  rw [if_pos hc]
theorem Ev.ite_neg {α : Type} {c : Prop} [Decidable c] {g f : Nat → Option α} {r : α} (hc : ¬ c) (k : Ev f r) : Ev (fun n => if c then g n else f n) r := by
  refine Ev.eqv (fun n => ?_) k
  rw [if_neg hc]
theorem getD_mid {α : Type} (d : α) (pre suf : List α) (x : α) : (pre ++ x :: suf).getD (pre.length : Int).toNat d = x := by
  rw [Int.toNat_natCast, List.getD_eq_getElem?_getD, List.getElem?_append_right (Nat.le_refl _), Nat.sub_self]
  rfl
theorem rd_mid (pre suf : List Int) (x : Int) : rd (pre ++ x :: suf) (pre.length : Int) = x := getD_mid 0 pre suf x
theorem lt_mid {α : Type} (pre suf : List α) (x : α) : (pre.length : Int) < ((pre ++ x :: suf).length : Int) := by
  rw [List.length_append, List.length_cons]; omega
theorem up_mid {α : Type} (pre suf : List α) (x : α) (h : (pre ++ x :: suf).length ≤ 9223372036854775807) : wrap64 ((pre.length : Int) + 1) = ((pre ++ [x]).length : Int) := by
  rw [List.length_append, List.length_cons] at h
  rw [List.length_append, List.length_singleton]
  unfold wrap64
  omega
theorem snoc_mid {α : Type} (pre suf : List α) (x : α) : pre ++ x :: suf = (pre ++ [x]) ++ suf := by simp
theorem Ev.need {α β : Type} [DecidableEq α] {g : Nat → Option α} {a : α} {f : Nat → Option β} {r : β} (h : Ev g a) (k : Ev f r) : Ev (fun n => if g n = some a then f n else none) r := by
  obtain ⟨m1, h1⟩ := h
  obtain ⟨m2, h2⟩ := k
  exact ⟨max m1 m2, fun n hn => by show (if g n = some a then f n else none) = some r; rw [if_pos (h1 n (by omega))]; exact h2 n (by omega)⟩
/-- All numbers lie between two. -/
def allIn (l : List Int) (lo hi : Int) : Bool := l.all fun n => decide (lo ≤ n) && decide (n ≤ hi)
theorem allIn_iff {l : List Int} {lo hi : Int} : allIn l lo hi = true ↔ ∀ x ∈ l, lo ≤ x ∧ x ≤ hi := by
  unfold allIn
  rw [List.all_eq_true]
  simp
/-- Where a number first stands, -1 if nowhere. -/
def idxI (l : List Int) (n : Int) : Int := match l.findIdx? (fun x => x == n) with
  | some i => (i : Int)
  | none => -1
theorem idxI_nil (n : Int) : idxI [] n = -1 := rfl
theorem idxI_cons (x : Int) (l : List Int) (n : Int) : idxI (x :: l) n = if x = n then 0 else if idxI l n = -1 then -1 else idxI l n + 1 := by
  unfold idxI
  rw [List.findIdx?_cons]
  by_cases c : x = n
  · simp [c]
  · simp only [beq_iff_eq, c, if_false]
    cases h : l.findIdx? fun x => x == n with
    | none => simp
    | some i =>
      have : ¬ ((i : Int) = -1) := by omega
      simp [this]
theorem idxI_ge (l : List Int) (n : Int) : -1 ≤ idxI l n := by
  unfold idxI
  split <;> omega
theorem idxI_mem (l : List Int) (n : Int) : decide (idxI l n ≥ 0) = decide (n ∈ l) := by
  induction l with
  | nil => rfl
  | cons x l ih =>
    rw [idxI_cons]
    have hg := idxI_ge l n
    by_cases c : x = n
    · simp [c]
    · rw [if_neg c]
      rw [decide_eq_decide] at ih ⊢
      rw [List.mem_cons]
      split
      · have : ¬ n ∈ l := fun h => by have := ih.2 h; omega
        simp [Ne.symm c, this]
      · have : n ∈ l := ih.1 (by omega)
        simp [this]
        omega
theorem ev_toIntS_l (l : List Int) (hn : l.length ≤ 35184372088832) : ∀ (suf pre : List Int), l = pre ++ suf → ∀ (z : List Int), z.length = suf.length → Ev (fun k => laws_toIntS.l0 k l (pre ++ z) (pre.length : Int)) l
  | [], pre, e, z, hz => by
    subst e
    have : z = [] := List.length_eq_zero_iff.1 hz
    subst this
    refine Ev.round (f := fun _ => some (pre ++ [])) (fun k => ?_) (Ev.now _)
    simp only [laws_toIntS.l0]
    rw [if_neg (by simp)]
  | x :: suf, pre, e, [], hz => by simp at hz
  | x :: suf, pre, e, y :: z, hz => by
    subst e
    have ih := ev_toIntS_l (pre ++ x :: suf) hn suf (pre ++ [x]) (snoc_mid _ _ _) z (by simpa using hz)
    refine Ev.round (fun k => ?_) ih
    simp only [laws_toIntS.l0]
    rw [if_pos (lt_mid _ _ _), if_pos (by omega), if_pos (lt_mid _ _ _), rd_mid, up_mid pre suf x (by omega)]
    congr 1
    rw [Int.toNat_natCast, List.set_append_right _ _ (Nat.le_refl _), Nat.sub_self, List.set_cons_zero]
    simp
theorem ev_toIntS (l : List Int) (hn : l.length ≤ 35184372088832) : Ev (fun k => laws_toIntS.f k l) l := by
  have h := ev_toIntS_l l hn l [] rfl (List.replicate l.length 0) (by simp)
  refine Ev.eqv (fun k => ?_) h
  unfold laws_toIntS.f
  rw [if_pos (by omega), Int.toNat_natCast, if_pos hn]
  rfl
theorem ev_eqIntS_l (a b : List Int) (hab : a.length = b.length) (hn : a.length ≤ 9223372036854775807) : ∀ (sa pa sb pb : List Int), a = pa ++ sa → b = pb ++ sb → pa.length = pb.length → Ev (fun k => laws_eqIntS.l0 k a b (pa.length : Int)) (decide (sa = sb))
  | [], pa, sb, pb, ea, eb, hp => by
    subst ea
    refine Ev.round (f := fun _ => some true) (fun k => ?_) (Ev.cast (Ev.now _) ?_)
    · simp only [laws_eqIntS.l0]
      rw [if_neg (by simp)]
    · have : sb = [] := by
        rw [eb] at hab
        simp at hab
        exact List.length_eq_zero_iff.1 (by omega)
      rw [this]; rfl
  | x :: sa, pa, [], pb, ea, eb, hp => by
    rw [ea, eb] at hab
    simp at hab
    omega
  | x :: sa, pa, y :: sb, pb, ea, eb, hp => by
    subst ea
    subst eb
    have h1 : ((pa.length : Nat) : Int) = (pb.length : Int) := by omega
    by_cases e : x = y
    · subst e
      have ih := ev_eqIntS_l (pa ++ x :: sa) (pb ++ x :: sb) hab hn sa (pa ++ [x]) sb (pb ++ [x]) (snoc_mid _ _ _) (snoc_mid _ _ _) (by simp [hp])
      refine Ev.round (fun k => ?_) (Ev.cast ih (by simp))
      simp only [laws_eqIntS.l0]
      rw [if_pos (lt_mid _ _ _), if_pos (by omega), if_pos (by rw [h1]; exact lt_mid _ _ _), rd_mid, h1, rd_mid, if_pos rfl, ← h1, up_mid _ _ _ hn]
    · refine Ev.round (f := fun _ => some false) (fun k => ?_) (Ev.cast (Ev.now _) (by simp [e]))
      simp only [laws_eqIntS.l0]
      rw [if_pos (lt_mid _ _ _), if_pos (by omega), if_pos (by rw [h1]; exact lt_mid _ _ _), rd_mid, h1, rd_mid, if_neg e]
theorem ev_eqIntS (a b : List Int) (hn : a.length ≤ 9223372036854775807) : Ev (fun k => laws_eqIntS.f k a b) (decide (a = b)) := by
  unfold laws_eqIntS.f
  by_cases h : a.length = b.length
  · exact Ev.ite_pos (by omega) (ev_eqIntS_l a b h hn a [] b [] rfl rfl rfl)
  · refine Ev.ite_neg (by omega) (Ev.cast (Ev.now _) ?_)
    rw [decide_eq_false]
    rintro rfl
    exact h rfl
theorem in_eq (a lo hi : Int) : spec_l1In.f a lo hi = some (decide (lo ≤ a) && decide (a ≤ hi)) := by
  unfold spec_l1In.f
  by_cases h : a ≥ lo
  · rw [if_pos h]; simp [h]
  · rw [if_neg h]; simp [h]
theorem ev_l1All_l (l : List Int) (lo hi : Int) (hn : l.length ≤ 9223372036854775807) : ∀ (suf pre : List Int), l = pre ++ suf → Ev (fun k => spec_l1All.l0 k lo hi l (l.length : Int) (pre.length : Int)) (allIn suf lo hi)
  | [], pre, e => by
    subst e
    refine Ev.round (f := fun _ => some true) (fun k => ?_) (Ev.now _)
    simp only [spec_l1All.l0]
    rw [if_neg (by simp)]
  | x :: suf, pre, e => by
    subst e
    by_cases c : (decide (lo ≤ x) && decide (x ≤ hi)) = true
    · have ih := ev_l1All_l (pre ++ x :: suf) lo hi hn suf (pre ++ [x]) (snoc_mid _ _ _)
      refine Ev.round (fun k => ?_) (Ev.cast ih (by unfold allIn; rw [List.all_cons, c, Bool.true_and]))
      simp only [spec_l1All.l0]
      rw [if_pos (lt_mid _ _ _), if_pos (by omega), if_pos (lt_mid _ _ _), rd_mid, in_eq, Option.bind_some, if_pos c, up_mid _ _ _ hn]
    · refine Ev.round (f := fun _ => some false) (fun k => ?_) (Ev.cast (Ev.now _) (by unfold allIn; rw [List.all_cons, Bool.eq_false_iff.2 c, Bool.false_and]))
      simp only [spec_l1All.l0]
      rw [if_pos (lt_mid _ _ _), if_pos (by omega), if_pos (lt_mid _ _ _), rd_mid, in_eq, Option.bind_some, if_neg c]
theorem ev_l1All (l : List Int) (lo hi : Int) (hn : l.length ≤ 9223372036854775807) : Ev (fun k => spec_l1All.f k l lo hi) (allIn l lo hi) := ev_l1All_l l lo hi hn l [] rfl
theorem allWithin_eq (l : List Int) (lo hi : Int) : impl_allWithin.f l lo hi = some (allIn l lo hi) := rfl
theorem ev_l1Has_l (l : List Int) (n : Int) (hn : l.length ≤ 9223372036854775807) : ∀ (suf pre : List Int), l = pre ++ suf → Ev (fun k => spec_l1Has.l0 k n l (l.length : Int) (pre.length : Int)) (decide (n ∈ suf))
  | [], pre, e => by
    subst e
    refine Ev.round (f := fun _ => some false) (fun k => ?_) (Ev.cast (Ev.now _) (by simp))
    simp only [spec_l1Has.l0]
    rw [if_neg (by simp)]
  | x :: suf, pre, e => by
    subst e
    by_cases c : x = n
    · refine Ev.round (f := fun _ => some true) (fun k => ?_) (Ev.cast (Ev.now _) (by simp [c]))
      simp only [spec_l1Has.l0]
      rw [if_pos (lt_mid _ _ _), if_pos (by omega), if_pos (lt_mid _ _ _), rd_mid, if_pos c]
    · have ih := ev_l1Has_l (pre ++ x :: suf) n hn suf (pre ++ [x]) (snoc_mid _ _ _)
      refine Ev.round (fun k => ?_) (Ev.cast ih (by simp [Ne.symm c]))
      simp only [spec_l1Has.l0]
      rw [if_pos (lt_mid _ _ _), if_pos (by omega), if_pos (lt_mid _ _ _), rd_mid, if_neg c, up_mid _ _ _ hn]
theorem ev_l1Has (l : List Int) (n : Int) (hn : l.length ≤ 9223372036854775807) : Ev (fun k => spec_l1Has.f k l n) (decide (n ∈ l)) := ev_l1Has_l l n hn l [] rfl
theorem ev_Index_l (l : List Int) (n : Int) (hn : l.length ≤ 9223372036854775807) : ∀ (suf pre : List Int), l = pre ++ suf → Ev (fun k => slices_Index_int_int.l0 k l n (l.length : Int) (pre.length : Int)) (if idxI suf n = -1 then -1 else (pre.length : Int) + idxI suf n)
  | [], pre, e => by
    subst e
    refine Ev.round (f := fun _ => some (-1)) (fun k => ?_) (Ev.cast (Ev.now _) (by rw [idxI_nil, if_pos rfl]))
    simp only [slices_Index_int_int.l0]
    rw [if_neg (by simp)]
  | x :: suf, pre, e => by
    subst e
    by_cases c : x = n
    · refine Ev.round (f := fun _ => some (pre.length : Int)) (fun k => ?_) (Ev.cast (Ev.now _) (by rw [idxI_cons, if_pos c, if_neg (by omega)]; omega))
      simp only [slices_Index_int_int.l0]
      rw [if_pos (lt_mid _ _ _), if_pos (by omega), if_pos (lt_mid _ _ _), rd_mid, if_pos c.symm]
    · have ih := ev_Index_l (pre ++ x :: suf) n hn suf (pre ++ [x]) (snoc_mid _ _ _)
      have hg := idxI_ge suf n
      refine Ev.round (fun k => ?_) (Ev.cast ih (by rw [idxI_cons, if_neg c, List.length_append, List.length_singleton]; by_cases e : idxI suf n = -1 <;> simp [e]; omega))
      simp only [slices_Index_int_int.l0]
      rw [if_pos (lt_mid _ _ _), if_pos (by omega), if_pos (lt_mid _ _ _), rd_mid, if_neg (Ne.symm c), up_mid _ _ _ hn]
theorem ev_Index (l : List Int) (n : Int) (hn : l.length ≤ 9223372036854775807) : Ev (fun k => slices_Index_int_int.f k l n) (idxI l n) :=
  Ev.cast (ev_Index_l l n hn l [] rfl) (by have := idxI_ge l n; split <;> simp_all)
theorem ev_Contains (l : List Int) (n : Int) (hn : l.length ≤ 9223372036854775807) : Ev (fun k => slices_Contains_int_int.f k l n) (decide (n ∈ l)) := by
  unfold slices_Contains_int_int.f
  exact Ev.bind (ev_Index l n hn) (Ev.cast (Ev.now _) (idxI_mem l n))
/-- n numbers from a on. -/
def upFrom (a : Int) : Nat → List Int
  | 0 => []
  | n + 1 => a :: upFrom (a + 1) n
theorem ev_markIntS_l : ∀ (suf pre : List Int) (a : Int), 0 ≤ a → a + suf.length ≤ 4611686018427387904 → pre.length + suf.length ≤ 4611686018427387904 → Ev (fun k => laws_markIntS.l0 k (pre ++ suf) a (pre.length : Int)) (a + suf.length, pre ++ upFrom a suf.length)
  | [], pre, a, h0, h1, h2 => by
    refine Ev.round (f := fun _ => some (a, pre ++ [])) (fun k => ?_) (Ev.cast (Ev.now _) (by simp [upFrom]))
    simp only [laws_markIntS.l0]
    rw [if_neg (by simp)]
  | x :: suf, pre, a, h0, h1, h2 => by
    rw [List.length_cons] at h1 h2
    have ih := ev_markIntS_l suf (pre ++ [a]) (a + 1) (by omega) (by omega) (by simp; omega)
    refine Ev.round (fun k => ?_) (Ev.cast ih (by rw [List.length_cons, upFrom]; simp; omega))
    simp only [laws_markIntS.l0]
    have hw : wrap64 (a + 1) = a + 1 := by unfold wrap64; omega
    have hw2 : wrap64 ((pre.length : Int) + 1) = ((pre ++ [a]).length : Int) := by unfold wrap64; simp; omega
    rw [if_pos (lt_mid _ _ _), if_pos (by omega), hw, hw2, Int.toNat_natCast, List.set_append_right _ _ (Nat.le_refl _), Nat.sub_self, List.set_cons_zero]
    simp
theorem ev_markIntS (l : List Int) (a : Int) (h0 : 0 ≤ a) (h1 : a + l.length ≤ 4611686018427387904) : Ev (fun k => laws_markIntS.f k l a) (a + l.length, upFrom a l.length) := ev_markIntS_l l [] a h0 h1 (by simp; omega)
theorem ev_heldIntS_l : ∀ (n : Nat) (pre : List Int) (a : Int), 0 ≤ a → a + n ≤ 4611686018427387904 → pre.length + n ≤ 4611686018427387904 → Ev (fun k => laws_heldIntS.l0 k (pre ++ upFrom a n) a (pre.length : Int)) (a + n)
  | 0, pre, a, h0, h1, h2 => by
    refine Ev.round (f := fun _ => some a) (fun k => ?_) (Ev.cast (Ev.now _) (by simp))
    simp only [laws_heldIntS.l0]
    rw [if_neg (by simp [upFrom])]
  | n + 1, pre, a, h0, h1, h2 => by
    have ih := ev_heldIntS_l n (pre ++ [a]) (a + 1) (by omega) (by omega) (by simp; omega)
    refine Ev.round (fun k => ?_) (Ev.cast ih (by omega))
    rw [upFrom]
    simp only [laws_heldIntS.l0]
    have hw : wrap64 (a + 1) = a + 1 := by unfold wrap64; omega
    have hw2 : wrap64 ((pre.length : Int) + 1) = ((pre ++ [a]).length : Int) := by unfold wrap64; simp; omega
    rw [if_pos (lt_mid _ _ _), if_pos (by omega), rd_mid, if_pos rfl, hw, hw2]
    simp
theorem ev_heldIntS (a : Int) (n : Nat) (h0 : 0 ≤ a) (h1 : a + n ≤ 4611686018427387904) : Ev (fun k => laws_heldIntS.f k (upFrom a n) a) (a + n) := ev_heldIntS_l n [] a h0 h1 (by simp; omega)
theorem szIntS_eq (l : List Int) (a : Int) : laws_szIntS.f l a = some (if wrap64 (a - (l.length : Int)) < 0 then -1 else wrap64 (a - (l.length : Int))) := by
  unfold laws_szIntS.f
  split <;> rfl
theorem rdL_mid (pre suf : List (List Int)) (x : List Int) : rd_L1 (pre ++ x :: suf) (pre.length : Int) = x := getD_mid [] pre suf x
/-- What two texts answer alike. -/
def Same {α : Type} (g h : Nat → Option α) : Prop := ∃ r, Ev g r ∧ Ev h r
theorem Same.of {α : Type} {g h : Nat → Option α} {r : α} (a : Ev g r) (b : Ev h r) : Same g h := ⟨r, a, b⟩
theorem Same.now {α : Type} (r : α) : Same (fun _ => some r) (fun _ => some r) := ⟨r, Ev.now _, Ev.now _⟩
theorem Same.round {α : Type} {g h g' h' : Nat → Option α} (a : ∀ k, g (k + 1) = g' k) (b : ∀ k, h (k + 1) = h' k) (s : Same g' h') : Same g h := by
  obtain ⟨r, p, q⟩ := s
  exact ⟨r, Ev.round a p, Ev.round b q⟩
theorem Same.eqv {α : Type} {g h g' h' : Nat → Option α} (a : ∀ k, g k = g' k) (b : ∀ k, h k = h' k) (s : Same g' h') : Same g h := by
  obtain ⟨r, p, q⟩ := s
  exact ⟨r, Ev.eqv a p, Ev.eqv b q⟩
theorem Same.bind {α β : Type} {g h : Nat → Option α} {f f' : Nat → α → Option β} {a : α} (p : Ev g a) (q : Ev h a) (s : Same (fun n => f n a) (fun n => f' n a)) : Same (fun n => (g n).bind (f n)) (fun n => (h n).bind (f' n)) := by
  obtain ⟨r, p', q'⟩ := s
  exact ⟨r, Ev.bind p p', Ev.bind q q'⟩
def szI (x : List Int) (a : Int) : Int := if wrap64 (a - (x.length : Int)) < 0 then -1 else wrap64 (a - (x.length : Int))
def szGo (a : Int) : List (List Int) → Int
  | [] => a
  | x :: l => if szI x a < 0 then -1 else szGo (szI x a) l
def szRows (l : List (List Int)) (a : Int) : Int := if wrap64 (a - (l.length : Int)) < 0 then -1 else szGo (wrap64 (a - (l.length : Int))) l
theorem ev_szIntSS_l (l : List (List Int)) (hn : l.length ≤ 9223372036854775807) : ∀ (suf pre : List (List Int)) (a : Int), l = pre ++ suf → Ev (fun k => laws_szIntSS.l0 k l a (pre.length : Int)) (szGo a suf)
  | [], pre, a, e => by
    subst e
    refine Ev.round (f := fun _ => some a) (fun k => ?_) (Ev.now _)
    simp only [laws_szIntSS.l0]
    rw [if_neg (by simp)]
  | x :: suf, pre, a, e => by
    subst e
    have hz : laws_szIntS.f x a = some (szI x a) := szIntS_eq x a
    by_cases c : szI x a < 0
    · refine Ev.round (f := fun _ => some (-1)) (fun k => ?_) (Ev.cast (Ev.now _) (by rw [szGo, if_pos c]))
      simp only [laws_szIntSS.l0]
      rw [if_pos (lt_mid _ _ _), if_pos (by omega), rdL_mid, hz, Option.bind_some, if_pos c]
    · have ih := ev_szIntSS_l (pre ++ x :: suf) hn suf (pre ++ [x]) (szI x a) (snoc_mid _ _ _)
      refine Ev.round (fun k => ?_) (Ev.cast ih (by rw [szGo, if_neg c]))
      simp only [laws_szIntSS.l0]
      rw [if_pos (lt_mid _ _ _), if_pos (by omega), rdL_mid, hz, Option.bind_some, if_neg c, up_mid _ _ _ hn]
theorem ev_szIntSS (l : List (List Int)) (a : Int) (hn : l.length ≤ 9223372036854775807) : Ev (fun k => laws_szIntSS.f k l a) (szRows l a) := by
  unfold laws_szIntSS.f szRows
  by_cases c : wrap64 (a - (l.length : Int)) < 0
  · rw [if_pos c]
    exact Ev.ite_pos c (Ev.now _)
  · rw [if_neg c]
    exact Ev.ite_neg c (ev_szIntSS_l l hn l [] _ rfl)
theorem szI_ok {x : List Int} {a : Int} (h0 : 0 ≤ a) (ha : a ≤ 4611686018427387904) (hx : x.length ≤ 9223372036854775807) (h : ¬ szI x a < 0) : (x.length : Int) ≤ a ∧ szI x a = a - x.length := by
  have hw : wrap64 (a - (x.length : Int)) = a - x.length := by unfold wrap64; omega
  unfold szI at h ⊢
  rw [hw] at h ⊢
  by_cases c : a - (x.length : Int) < 0
  · rw [if_pos c] at h; omega
  · rw [if_neg c]; omega
theorem szGo_ok : ∀ (l : List (List Int)) (a : Int), 0 ≤ a → a ≤ 4611686018427387904 → (∀ x ∈ l, x.length ≤ 9223372036854775807) → ¬ szGo a l < 0 → (∀ x ∈ l, (x.length : Int) ≤ a) ∧ szGo a l ≤ a
  | [], a, h0, ha, hx, h => ⟨by simp, Int.le_refl _⟩
  | x :: l, a, h0, ha, hx, h => by
    rw [szGo] at h ⊢
    by_cases c : szI x a < 0
    · rw [if_pos c] at h; omega
    · rw [if_neg c] at h ⊢
      obtain ⟨h1, h2⟩ := szI_ok h0 ha (hx x (by simp)) c
      obtain ⟨h3, h4⟩ := szGo_ok l (szI x a) (by omega) (by omega) (fun y hy => hx y (by simp [hy])) h
      refine ⟨fun y hy => ?_, by omega⟩
      rcases List.mem_cons.1 hy with rfl | hy
      · exact h1
      · have := h3 y hy; omega
theorem szRows_ok {l : List (List Int)} {a : Int} (h0 : 0 ≤ a) (ha : a ≤ 4611686018427387904) (hl : l.length ≤ 9223372036854775807) (hx : ∀ x ∈ l, x.length ≤ 9223372036854775807) (h : ¬ szRows l a < 0) : (l.length : Int) ≤ a ∧ (∀ x ∈ l, (x.length : Int) ≤ a) ∧ szRows l a ≤ a := by
  have hw : wrap64 (a - (l.length : Int)) = a - l.length := by unfold wrap64; omega
  unfold szRows at h ⊢
  rw [hw] at h ⊢
  by_cases c : a - (l.length : Int) < 0
  · rw [if_pos c] at h; omega
  · rw [if_neg c] at h ⊢
    obtain ⟨h3, h4⟩ := szGo_ok l _ (by omega) (by omega) hx h
    exact ⟨by omega, fun x hx => by have := h3 x hx; omega, by omega⟩
theorem szGo_flat : ∀ (l : List (List Int)) (a : Int), 0 ≤ a → a ≤ 4611686018427387904 → (∀ x ∈ l, x.length ≤ 9223372036854775807) → ¬ szGo a l < 0 → (l.flatten.length : Int) ≤ a
  | [], a, h0, _, _, _ => by simpa using h0
  | x :: l, a, h0, ha, hx, h => by
    rw [szGo] at h
    by_cases c : szI x a < 0
    · rw [if_pos c] at h; omega
    · rw [if_neg c] at h
      obtain ⟨h1, h2⟩ := szI_ok h0 ha (hx x (by simp)) c
      have h3 := szGo_flat l (szI x a) (by omega) (by omega) (fun y hy => hx y (by simp [hy])) h
      rw [List.flatten_cons, List.length_append]
      omega
theorem szRows_flat {l : List (List Int)} {a : Int} (h0 : 0 ≤ a) (ha : a ≤ 4611686018427387904) (hl : l.length ≤ 9223372036854775807) (hx : ∀ x ∈ l, x.length ≤ 9223372036854775807) (h : ¬ szRows l a < 0) : (l.flatten.length : Int) ≤ a := by
  have hw : wrap64 (a - (l.length : Int)) = a - l.length := by unfold wrap64; omega
  unfold szRows at h
  rw [hw] at h
  by_cases c : a - (l.length : Int) < 0
  · rw [if_pos c] at h; omega
  · rw [if_neg c] at h
    have := szGo_flat l _ (by omega) (by omega) hx h
    omega
theorem ev_toIntSS_l (l : List (List Int)) (hn : l.length ≤ 11728124029610) (hx : ∀ x ∈ l, x.length ≤ 35184372088832) : ∀ (suf pre : List (List Int)), l = pre ++ suf → ∀ (z : List (List Int)), z.length = suf.length → Ev (fun k => laws_toIntSS.l0 k l (pre ++ z) (pre.length : Int)) l
  | [], pre, e, z, hz => by
    subst e
    have : z = [] := List.length_eq_zero_iff.1 hz
    subst this
    refine Ev.round (f := fun _ => some (pre ++ [])) (fun k => ?_) (Ev.now _)
    simp only [laws_toIntSS.l0]
    rw [if_neg (by simp)]
  | x :: suf, pre, e, [], hz => by simp at hz
  | x :: suf, pre, e, y :: z, hz => by
    subst e
    have ih := ev_toIntSS_l (pre ++ x :: suf) hn hx suf (pre ++ [x]) (snoc_mid _ _ _) z (by simpa using hz)
    have ht := ev_toIntS x (hx x (by simp))
    refine Ev.round (fun k => ?_) (Ev.bind ht (f := fun k t => laws_toIntSS.l0 k (pre ++ x :: suf) (pre ++ [t] ++ z) (((pre ++ [x]).length : Nat) : Int)) ih)
    simp only [laws_toIntSS.l0]
    rw [if_pos (lt_mid _ _ _), if_pos (by omega), rdL_mid]
    congr 1
    funext t
    rw [if_pos (lt_mid _ _ _), up_mid pre suf x (by omega), Int.toNat_natCast, List.set_append_right _ _ (Nat.le_refl _), Nat.sub_self, List.set_cons_zero]
    simp
theorem ev_toIntSS (l : List (List Int)) (hn : l.length ≤ 11728124029610) (hx : ∀ x ∈ l, x.length ≤ 35184372088832) : Ev (fun k => laws_toIntSS.f k l) l := by
  have h := ev_toIntSS_l l hn hx l [] rfl (List.replicate l.length []) (by simp)
  refine Ev.eqv (fun k => ?_) h
  unfold laws_toIntSS.f
  rw [if_pos (by omega), Int.toNat_natCast, if_pos hn]
  rfl
theorem ev_eqIntSS_l (a b : List (List Int)) (hab : a.length = b.length) (hn : a.length ≤ 9223372036854775807) (hx : ∀ x ∈ a, x.length ≤ 9223372036854775807) : ∀ (sa pa sb pb : List (List Int)), a = pa ++ sa → b = pb ++ sb → pa.length = pb.length → Ev (fun k => laws_eqIntSS.l0 k a b (pa.length : Int)) (decide (sa = sb))
  | [], pa, sb, pb, ea, eb, hp => by
    subst ea
    refine Ev.round (f := fun _ => some true) (fun k => ?_) (Ev.cast (Ev.now _) ?_)
    · simp only [laws_eqIntSS.l0]
      rw [if_neg (by simp)]
    · have : sb = [] := by
        rw [eb] at hab
        simp at hab
        exact List.length_eq_zero_iff.1 (by omega)
      rw [this]; rfl
  | x :: sa, pa, [], pb, ea, eb, hp => by
    rw [ea, eb] at hab
    simp at hab
    omega
  | x :: sa, pa, y :: sb, pb, ea, eb, hp => by
    subst ea
    subst eb
    have h1 : ((pa.length : Nat) : Int) = (pb.length : Int) := by omega
    have h2 : (pa.length : Int) < ((pb ++ y :: sb).length : Int) := by rw [h1]; exact lt_mid _ _ _
    have h3 : rd_L1 (pb ++ y :: sb) (pa.length : Int) = y := by rw [h1]; exact rdL_mid _ _ _
    have he := ev_eqIntS x y (hx x (by simp))
    have ih := fun (e : x = y) => ev_eqIntSS_l (pa ++ x :: sa) (pb ++ y :: sb) hab hn hx sa (pa ++ [x]) sb (pb ++ [y]) (snoc_mid _ _ _) (snoc_mid _ _ _) (by simp [hp])
    refine Ev.round (fun k => ?_) (Ev.bind he (f := fun k t => if t = true then laws_eqIntSS.l0 k (pa ++ x :: sa) (pb ++ y :: sb) (((pa ++ [x]).length : Nat) : Int) else some false) ?_)
    · simp only [laws_eqIntSS.l0]
      rw [if_pos (lt_mid _ _ _), if_pos (by omega), if_pos h2, rdL_mid, h3, up_mid _ _ _ hn]
    · by_cases e : x = y
      · exact Ev.ite_pos (by simp [e]) (Ev.cast (ih e) (by simp [e]))
      · exact Ev.ite_neg (by simp [e]) (Ev.cast (Ev.now _) (by simp [e]))
theorem ev_eqIntSS (a b : List (List Int)) (hn : a.length ≤ 9223372036854775807) (hx : ∀ x ∈ a, x.length ≤ 9223372036854775807) : Ev (fun k => laws_eqIntSS.f k a b) (decide (a = b)) := by
  unfold laws_eqIntSS.f
  by_cases h : a.length = b.length
  · exact Ev.ite_pos (by omega) (ev_eqIntSS_l a b h hn hx a [] b [] rfl rfl rfl)
  · refine Ev.ite_neg (by omega) (Ev.cast (Ev.now _) ?_)
    rw [decide_eq_false]
    rintro rfl
    exact h rfl
/-- All rows are as long as n says, and lie from 0 up to hi. -/
def rowsB (n : Nat) (hi : Int) (l : List (List Int)) : Bool := l.all fun x => decide (x.length = n) && allIn x 0 hi
theorem rowsB_iff {n : Nat} {hi : Int} {l : List (List Int)} : rowsB n hi l = true ↔ ∀ x ∈ l, x.length = n ∧ ∀ v ∈ x, 0 ≤ v ∧ v ≤ hi := by
  unfold rowsB
  rw [List.all_eq_true]
  refine forall_congr' fun x => ?_
  rw [Bool.and_eq_true, decide_eq_true_eq, allIn_iff]
theorem rdL_mem {l : List (List Int)} {p : Int} (h0 : 0 ≤ p) (h1 : p < (l.length : Int)) : rd_L1 l p ∈ l := by
  unfold rd_L1
  exact getD_mem _ (by omega)
def netB (l : List (List Int)) : Bool := (decide (2 ≤ (l.length : Int)) && decide ((l.length : Int) ≤ 8)) && rowsB l.length 50 l
theorem netB_iff {l : List (List Int)} (h : netB l = true) : (2 ≤ l.length ∧ l.length ≤ 8) ∧ ∀ x ∈ l, x.length = l.length ∧ ∀ v ∈ x, 0 ≤ v ∧ v ≤ 50 := by
  unfold netB at h
  rw [Bool.and_eq_true, rowsB_iff] at h
  refine ⟨?_, h.2⟩
  have := h.1
  simp at this
  omega
theorem ev_l13Rows_l (l : List (List Int)) (hn : l.length ≤ 9223372036854775807) (hx : ∀ x ∈ l, x.length ≤ 9223372036854775807) : ∀ (suf pre : List (List Int)), l = pre ++ suf →
    Ev (fun k => spec_l13Rows.l0 k l l (l.length : Int) (pre.length : Int)) (rowsB l.length 50 suf && (decide (2 ≤ (l.length : Int)) && decide ((l.length : Int) ≤ 8)))
  | [], pre, e => by
    subst e
    refine Ev.round (f := fun _ => some (decide (2 ≤ ((pre ++ []).length : Int)) && decide (((pre ++ []).length : Int) ≤ 8))) (fun k => ?_) (Ev.cast (Ev.now _) (by simp [rowsB]))
    simp only [spec_l13Rows.l0]
    rw [if_neg (by simp), in_eq, Option.bind_some]
  | x :: suf, pre, e => by
    subst e
    have ih := ev_l13Rows_l (pre ++ x :: suf) hn hx suf (pre ++ [x]) (snoc_mid _ _ _)
    generalize hN : (pre ++ x :: suf).length = N at ih ⊢
    by_cases c : x.length = N
    · have ha := ev_l1All x 0 50 (hx x (by simp))
      refine Ev.round (fun k => ?_) (Ev.bind ha (f := fun k t => if t = true then spec_l13Rows.l0 k (pre ++ x :: suf) (pre ++ x :: suf) (N : Int) (((pre ++ [x]).length : Nat) : Int) else some false) ?_)
      · simp only [spec_l13Rows.l0]
        rw [if_pos (by rw [← hN]; exact lt_mid _ _ _), if_pos (by omega), if_pos (lt_mid _ _ _), rdL_mid, hN, if_pos (by omega), up_mid _ _ _ hn]
      · by_cases d : allIn x 0 50 = true
        · exact Ev.ite_pos d (Ev.cast ih (by unfold rowsB; rw [List.all_cons, d, decide_eq_true c]; rfl))
        · exact Ev.ite_neg d (Ev.cast (Ev.now _) (by unfold rowsB; rw [List.all_cons, Bool.eq_false_iff.2 d]; simp))
    · refine Ev.round (f := fun _ => some false) (fun k => ?_) (Ev.cast (Ev.now _) (by unfold rowsB; rw [List.all_cons, decide_eq_false c]; simp))
      simp only [spec_l13Rows.l0]
      rw [if_pos (by rw [← hN]; exact lt_mid _ _ _), if_pos (by omega), if_pos (lt_mid _ _ _), rdL_mid, hN, if_neg (by omega)]
theorem ev_l13Rows (l : List (List Int)) (hn : l.length ≤ 9223372036854775807) (hx : ∀ x ∈ l, x.length ≤ 9223372036854775807) : Ev (fun k => spec_l13Rows.f k l) (netB l) :=
  Ev.cast (ev_l13Rows_l l hn hx l [] rfl) (Bool.and_comm _ _)
theorem areRows_eq (l : List (List Int)) : impl_areRows.f l = some (netB l) := rfl
/-- Nothing but 0 on the diagonal. -/
def diagZ : Int → List (List Int) → Bool
  | _, [] => true
  | i, x :: l => decide (rd x i = 0) && diagZ (i + 1) l
def goodNetB (l : List (List Int)) : Bool := netB l && diagZ 0 l
theorem goodNetB_iff {l : List (List Int)} (h : goodNetB l = true) : (2 ≤ l.length ∧ l.length ≤ 8) ∧ ∀ x ∈ l, x.length = l.length ∧ ∀ v ∈ x, 0 ≤ v ∧ v ≤ 50 := by
  unfold goodNetB at h
  rw [Bool.and_eq_true] at h
  exact netB_iff h.1
theorem ev_diag_l (l : List (List Int)) (hn : l.length ≤ 8) (hx : ∀ x ∈ l, x.length = l.length) : ∀ (suf pre : List (List Int)), l = pre ++ suf →
    Ev (fun k => spec_GoodNet.l0 k l (l.length : Int) (pre.length : Int)) (diagZ (pre.length : Int) suf) ∧ Ev (fun k => impl_GoodNet.l0 k l (l.length : Int) (pre.length : Int)) (diagZ (pre.length : Int) suf)
  | [], pre, e => by
    subst e
    refine ⟨Ev.round (f := fun _ => some true) (fun k => ?_) (Ev.now _), Ev.round (f := fun _ => some true) (fun k => ?_) (Ev.now _)⟩
    · simp only [spec_GoodNet.l0]
      rw [if_neg (by simp)]
    · simp only [impl_GoodNet.l0]
      rw [if_neg (by simp)]
  | x :: suf, pre, e => by
    have ih := ev_diag_l l hn hx suf (pre ++ [x]) (by rw [e]; simp)
    have hxl := hx x (by rw [e]; simp)
    have h1 : (pre.length : Int) < (l.length : Int) := by rw [e]; exact lt_mid _ _ _
    have h2 : rd_L1 l (pre.length : Int) = x := by rw [e]; exact rdL_mid _ _ _
    have h3 : wrap64 ((pre.length : Int) + 1) = ((pre ++ [x]).length : Int) := by rw [List.length_append, List.length_singleton]; unfold wrap64; omega
    have h4 : ((pre ++ [x]).length : Int) = (pre.length : Int) + 1 := by simp
    by_cases c : rd x (pre.length : Int) = 0
    · refine ⟨Ev.round (fun k => ?_) (Ev.cast ih.1 (by rw [diagZ, decide_eq_true c, Bool.true_and, h4])), Ev.round (fun k => ?_) (Ev.cast ih.2 (by rw [diagZ, decide_eq_true c, Bool.true_and, h4]))⟩
      · simp only [spec_GoodNet.l0]
        rw [if_pos h1, if_pos (by omega), if_pos h1, h2, if_pos (by omega), if_pos c, h3]
      · simp only [impl_GoodNet.l0]
        rw [if_pos h1, if_pos (by omega), if_pos h1, h2, if_pos (by omega), if_pos c, h3]
    · refine ⟨Ev.round (f := fun _ => some false) (fun k => ?_) (Ev.cast (Ev.now _) (by rw [diagZ, decide_eq_false c]; rfl)), Ev.round (f := fun _ => some false) (fun k => ?_) (Ev.cast (Ev.now _) (by rw [diagZ, decide_eq_false c]; rfl))⟩
      · simp only [spec_GoodNet.l0]
        rw [if_pos h1, if_pos (by omega), if_pos h1, h2, if_pos (by omega), if_neg c]
      · simp only [impl_GoodNet.l0]
        rw [if_pos h1, if_pos (by omega), if_pos h1, h2, if_pos (by omega), if_neg c]
theorem ev_GoodNet (l : List (List Int)) (hn : l.length ≤ 9223372036854775807) (hx : ∀ x ∈ l, x.length ≤ 9223372036854775807) : Ev (fun k => spec_GoodNet.f k l) (goodNetB l) := by
  unfold spec_GoodNet.f goodNetB
  refine Ev.bind (ev_l13Rows l hn hx) ?_
  by_cases c : netB l = true
  · have h := netB_iff c
    exact Ev.ite_pos c (Ev.cast (ev_diag_l l h.1.2 (fun x hx => (h.2 x hx).1) l [] rfl).1 (by rw [c]; rfl))
  · exact Ev.ite_neg c (Ev.cast (Ev.now _) (by rw [Bool.eq_false_iff.2 c]; rfl))
theorem ev_implGoodNet (l : List (List Int)) : Ev (fun k => impl_GoodNet.f k l) (goodNetB l) := by
  unfold impl_GoodNet.f goodNetB
  refine Ev.bindc (areRows_eq l) ?_
  by_cases c : netB l = true
  · have h := netB_iff c
    exact Ev.ite_pos c (Ev.cast (ev_diag_l l h.1.2 (fun x hx => (h.2 x hx).1) l [] rfl).2 (by rw [c]; rfl))
  · exact Ev.ite_neg c (Ev.cast (Ev.now _) (by rw [Bool.eq_false_iff.2 c]; rfl))
/-- What flows out of hall p less what flows in. -/
def valGo (r : List Int) (p : Int) : Int → Int → List (List Int) → Int
  | s, _, [] => s
  | s, i, x :: l => valGo r p (wrap64 (s + wrap64 (rd r i - rd x p))) (i + 1) l
def valZ (l : List (List Int)) (p : Int) : Int := valGo (rd_L1 l p) p 0 0 l
theorem ev_value_l (l : List (List Int)) (p : Int) (hp : 0 ≤ p ∧ p < (l.length : Int)) (hn : l.length ≤ 8) (hx : ∀ x ∈ l, x.length = l.length) (hr : (rd_L1 l p).length = l.length) : ∀ (suf pre : List (List Int)) (s : Int), l = pre ++ suf →
    Ev (fun k => impl_value.l0 k l p s (l.length : Int) (pre.length : Int)) (valGo (rd_L1 l p) p s (pre.length : Int) suf)
  | [], pre, s, e => by
    subst e
    refine Ev.round (f := fun _ => some s) (fun k => ?_) (Ev.now _)
    simp only [impl_value.l0]
    rw [if_neg (by simp)]
  | x :: suf, pre, s, e => by
    have ih := ev_value_l l p hp hn hx hr suf (pre ++ [x]) (wrap64 (s + wrap64 (rd (rd_L1 l p) (pre.length : Int) - rd x p))) (by rw [e]; simp)
    have hxl := hx x (by rw [e]; simp)
    have h1 : (pre.length : Int) < (l.length : Int) := by rw [e]; exact lt_mid _ _ _
    have h2 : rd_L1 l (pre.length : Int) = x := by rw [e]; exact rdL_mid _ _ _
    have h3 : wrap64 ((pre.length : Int) + 1) = ((pre ++ [x]).length : Int) := by rw [List.length_append, List.length_singleton]; unfold wrap64; omega
    have h4 : ((pre ++ [x]).length : Int) = (pre.length : Int) + 1 := by simp
    refine Ev.round (fun k => ?_) (Ev.cast ih (by rw [valGo, h4]))
    simp only [impl_value.l0]
    rw [if_pos h1, if_pos hp.1, if_pos hp.2, if_pos (by omega), if_pos (by omega), if_pos h1, h2, if_pos (by omega), h3]
theorem ev_value (l : List (List Int)) (p : Int) (hp : 0 ≤ p ∧ p < (l.length : Int)) (hn : l.length ≤ 8) (hx : ∀ x ∈ l, x.length = l.length) : Ev (fun k => impl_value.f k l p) (valZ l p) :=
  ev_value_l l p hp hn hx (hx _ (rdL_mem hp.1 hp.2)) l [] 0 rfl
theorem flow_in (net l : List (List Int)) (N i : Int) (hi : 0 ≤ i) (hil : i < (l.length : Int)) (hnl : net.length = l.length) (hn : l.length ≤ 8) (hx : ∀ x ∈ l, x.length = l.length) (hm : ∀ x ∈ net, x.length = net.length)
    (H : Same (fun k => spec_l13Flow.l0 k net l N (wrap64 (i + 1))) (fun k => impl_isFlowOf.l0 k net l l N (wrap64 (i + 1)))) : ∀ (s p : List (List Int)) (ys py : List Int) (acc : Int), l = p ++ s → rd_L1 l i = py ++ ys → py.length = p.length → ys.length = s.length →
    valGo (rd_L1 l i) i acc (p.length : Int) s = valZ l i →
    Same (fun k => spec_l13Flow.l1 k net l i acc N i (l.length : Int) (p.length : Int)) (fun k => impl_isFlowOf.l1 k net l i l N i (rd_L1 l i) ((rd_L1 l i).length : Int) (p.length : Int))
  | [], p, ys, py, acc, e, ey, hpy, hys, hv => by
    have hr : (rd_L1 l i).length = l.length := hx _ (rdL_mem hi hil)
    have hpl : p.length = l.length := by rw [e]; simp
    have hv' : acc = valZ l i := hv
    have hw : wrap64 ((l.length : Int) - 1) = (l.length : Int) - 1 := by unfold wrap64; omega
    have hval := ev_value l i ⟨hi, hil⟩ hn hx
    by_cases c1 : i > 0
    · by_cases c2 : i < (l.length : Int) - 1
      · by_cases c3 : acc = 0
        · obtain ⟨r, p1, p2⟩ := H
          refine Same.of (r := r) (Ev.round (fun k => ?_) p1) (Ev.round (f := fun k => (impl_value.f k l i).bind fun t187 => (if t187 = 0 then (impl_isFlowOf.l0 k net l l N (wrap64 (i + 1))) else (some false))) (fun k => ?_) (Ev.bind hval (Ev.ite_pos (by omega) p2)))
          · simp only [spec_l13Flow.l1]
            rw [if_neg (by omega), if_pos c1, hw, if_pos c2, if_pos c3]
          · simp only [impl_isFlowOf.l1]
            rw [if_neg (by omega), if_pos c1, hw, if_pos c2]
        · refine Same.of (r := false) (Ev.round (f := fun _ => some false) (fun k => ?_) (Ev.now _)) (Ev.round (f := fun k => (impl_value.f k l i).bind fun t187 => (if t187 = 0 then (impl_isFlowOf.l0 k net l l N (wrap64 (i + 1))) else (some false))) (fun k => ?_) (Ev.bind hval (Ev.ite_neg (by omega) (Ev.now _))))
          · simp only [spec_l13Flow.l1]
            rw [if_neg (by omega), if_pos c1, hw, if_pos c2, if_neg c3]
          · simp only [impl_isFlowOf.l1]
            rw [if_neg (by omega), if_pos c1, hw, if_pos c2]
      · refine Same.round (fun k => ?_) (fun k => ?_) H
        · simp only [spec_l13Flow.l1]
          rw [if_neg (by omega), if_pos c1, hw, if_neg c2]
        · simp only [impl_isFlowOf.l1]
          rw [if_neg (by omega), if_pos c1, hw, if_neg c2]
    · refine Same.round (fun k => ?_) (fun k => ?_) H
      · simp only [spec_l13Flow.l1]
        rw [if_neg (by omega), if_neg c1]
      · simp only [impl_isFlowOf.l1]
        rw [if_neg (by omega), if_neg c1]
  | x :: s, p, [], py, acc, e, ey, hpy, hys, hv => by simp at hys
  | x :: s, p, y :: ys, py, acc, e, ey, hpy, hys, hv => by
    have hr : (rd_L1 l i).length = l.length := hx _ (rdL_mem hi hil)
    have hnr : (rd_L1 net i).length = net.length := hm _ (rdL_mem hi (by omega))
    have hxl := hx x (by rw [e]; simp)
    have h1 : (p.length : Int) < (l.length : Int) := by rw [e]; exact lt_mid _ _ _
    have h2 : rd_L1 l (p.length : Int) = x := by rw [e]; exact rdL_mid _ _ _
    have h5 : rd (rd_L1 l i) (p.length : Int) = y := by rw [ey, ← hpy]; exact rd_mid _ _ _
    have h3 : wrap64 ((p.length : Int) + 1) = ((p ++ [x]).length : Int) := by rw [List.length_append, List.length_singleton]; unfold wrap64; omega
    have h4 : ((p ++ [x]).length : Int) = (p.length : Int) + 1 := by simp
    have hii : i < ((rd_L1 l (p.length : Int)).length : Int) := by rw [h2, hxl]; exact hil
    by_cases c : y > rd (rd_L1 net i) (p.length : Int)
    · refine Same.round (g' := fun _ => some false) (h' := fun _ => some false) (fun k => ?_) (fun k => ?_) (Same.now _)
      · simp only [spec_l13Flow.l1]
        rw [if_pos h1, if_pos hi, if_pos hil, if_pos (by omega), if_pos (by omega), if_pos (by omega), if_pos (by omega), h5, if_pos c]
      · simp only [impl_isFlowOf.l1]
        rw [if_pos (by omega), if_pos (by omega), if_pos (by omega), if_pos hi, if_pos (by omega), if_pos (by omega), h5, if_pos c]
    · have ih := flow_in net l N i hi hil hnl hn hx hm H s (p ++ [x]) ys (py ++ [y]) (wrap64 (acc + wrap64 (y - rd x i))) (by rw [e]; simp) (by rw [ey]; simp) (by simp [hpy]) (by simpa using hys) (by rw [h4, ← hv, valGo, h5])
      refine Same.round (fun k => ?_) (fun k => ?_) ih
      · simp only [spec_l13Flow.l1]
        rw [if_pos h1, if_pos hi, if_pos hil, if_pos (by omega), if_pos (by omega), if_pos (by omega), if_pos (by omega), h5, if_neg c, if_pos h1, if_pos hii, h2, h3]
      · simp only [impl_isFlowOf.l1]
        rw [if_pos (by omega), if_pos (by omega), if_pos (by omega), if_pos hi, if_pos (by omega), if_pos (by omega), h5, if_neg c, h3]
theorem flow_out (net l : List (List Int)) (hnl : net.length = l.length) (hn : l.length ≤ 8) (hx : ∀ x ∈ l, x.length = l.length) (hm : ∀ x ∈ net, x.length = net.length) : ∀ (suf pre : List (List Int)), l = pre ++ suf →
    Same (fun k => spec_l13Flow.l0 k net l (l.length : Int) (pre.length : Int)) (fun k => impl_isFlowOf.l0 k net l l (l.length : Int) (pre.length : Int))
  | [], pre, e => by
    refine Same.round (g' := fun _ => some true) (h' := fun _ => some true) (fun k => ?_) (fun k => ?_) (Same.now _)
    · simp only [spec_l13Flow.l0]
      rw [if_neg (by rw [e]; simp)]
    · simp only [impl_isFlowOf.l0]
      rw [if_neg (by rw [e]; simp)]
  | x :: suf, pre, e => by
    have ih := flow_out net l hnl hn hx hm suf (pre ++ [x]) (by rw [e]; simp)
    have hxl := hx x (by rw [e]; simp)
    have h1 : (pre.length : Int) < (l.length : Int) := by rw [e]; exact lt_mid _ _ _
    have h2 : rd_L1 l (pre.length : Int) = x := by rw [e]; exact rdL_mid _ _ _
    have h3 : wrap64 ((pre.length : Int) + 1) = ((pre ++ [x]).length : Int) := by rw [List.length_append, List.length_singleton]; unfold wrap64; omega
    have inn := flow_in net l (l.length : Int) (pre.length : Int) (by omega) h1 hnl hn hx hm (by rw [h3]; exact ih) l [] (rd_L1 l (pre.length : Int)) [] 0 rfl rfl rfl (by rw [h2, hxl]) rfl
    refine Same.round (fun k => ?_) (fun k => ?_) inn
    · simp only [spec_l13Flow.l0]
      rw [if_pos h1]
      rfl
    · simp only [impl_isFlowOf.l0]
      rw [if_pos h1, if_pos (by omega), if_pos h1]
      rfl
theorem same_Flow (net l : List (List Int)) (hg : goodNetB net = true) (hn : l.length ≤ 9223372036854775807) (hx : ∀ x ∈ l, x.length ≤ 9223372036854775807) : Same (fun k => spec_l13Flow.f k net l) (fun k => impl_isFlowing.f k net l) := by
  have hN := goodNetB_iff hg
  have base : ∀ {r}, Ev (fun k => spec_l13Flow.f k net l) r → Ev (fun k => (impl_areRows.f l).bind fun t189 => (if t189 = true then (if (l.length : Int) = (net.length : Int) then ((impl_isFlowOf.f k net l).bind fun t190 => (some t190)) else (some false)) else (some false))) r → Same (fun k => spec_l13Flow.f k net l) (fun k => impl_isFlowing.f k net l) := by
    intro r a b
    refine Same.of a ?_
    unfold impl_isFlowing.f
    exact Ev.bind (ev_implGoodNet net) (Ev.ite_pos hg b)
  by_cases c : netB l = true
  · have hL := netB_iff c
    by_cases d : l.length = net.length
    · obtain ⟨r, p, q⟩ := flow_out net l d.symm hL.1.2 (fun x hx => (hL.2 x hx).1) (fun x hx => (hN.2 x hx).1) l [] rfl
      refine base (r := r) ?_ ?_
      · unfold spec_l13Flow.f
        refine Ev.bind (ev_l13Rows l hn hx) (Ev.ite_pos c ?_)
        refine Ev.round (fun k => ?_) p
        simp only [spec_l13Flow.j0]
        rw [if_neg (by simp [d])]
        rfl
      · refine Ev.bindc (areRows_eq l) (Ev.ite_pos c (Ev.ite_pos (by omega) ?_))
        refine Ev.bind (g := fun k => impl_isFlowOf.f k net l) (a := r) q (Ev.now _)
    · refine base (r := false) ?_ ?_
      · unfold spec_l13Flow.f
        refine Ev.bind (ev_l13Rows l hn hx) (Ev.ite_pos c ?_)
        refine Ev.round (f := fun _ => some false) (fun k => ?_) (Ev.now _)
        simp only [spec_l13Flow.j0]
        rw [if_pos (by simp; omega)]
      · exact Ev.bindc (areRows_eq l) (Ev.ite_pos c (Ev.ite_neg (by omega) (Ev.now _)))
  · refine base (r := false) ?_ ?_
    · unfold spec_l13Flow.f
      refine Ev.bind (ev_l13Rows l hn hx) (Ev.ite_neg c ?_)
      refine Ev.round (f := fun _ => some false) (fun k => ?_) (Ev.now _)
      simp [spec_l13Flow.j0]
    · exact Ev.bindc (areRows_eq l) (Ev.ite_neg c (Ev.now _))
def markR : Int → List (List Int) → List (List Int)
  | _, [] => []
  | a, x :: l => upFrom a x.length :: markR (a + x.length) l
theorem markS_run : ∀ (suf pre : List Int) (a : Int) (k : Nat), 0 ≤ a → a + suf.length ≤ 4611686018427387904 → pre.length + suf.length ≤ 4611686018427387904 → suf.length < k → laws_markIntS.l0 k (pre ++ suf) a (pre.length : Int) = some (a + suf.length, pre ++ upFrom a suf.length)
  | [], pre, a, k, h0, h1, h2, hk => by
    obtain ⟨k, rfl⟩ : ∃ j, k = j + 1 := ⟨k - 1, by simp at hk; omega⟩
    simp only [laws_markIntS.l0]
    rw [if_neg (by simp)]
    simp [upFrom]
  | x :: suf, pre, a, k, h0, h1, h2, hk => by
    rw [List.length_cons] at h1 h2 hk
    obtain ⟨k, rfl⟩ : ∃ j, k = j + 1 := ⟨k - 1, by omega⟩
    have ih := markS_run suf (pre ++ [a]) (a + 1) k (by omega) (by omega) (by simp; omega) (by omega)
    simp only [laws_markIntS.l0]
    have hw : wrap64 (a + 1) = a + 1 := by unfold wrap64; omega
    have hw2 : wrap64 ((pre.length : Int) + 1) = ((pre ++ [a]).length : Int) := by unfold wrap64; simp; omega
    rw [if_pos (lt_mid _ _ _), if_pos (by omega), hw, hw2, Int.toNat_natCast, List.set_append_right _ _ (Nat.le_refl _), Nat.sub_self, List.set_cons_zero, show pre ++ a :: suf = (pre ++ [a]) ++ suf from by simp, ih, List.length_cons, upFrom]
    simp
    omega
theorem markS_eq (l : List Int) (a : Int) (h0 : 0 ≤ a) (h1 : a + l.length ≤ 4611686018427387904) : laws_markIntS.f (l.length + 1) l a = some (a + l.length, upFrom a l.length) := markS_run l [] a _ h0 h1 (by simp; omega) (Nat.lt_succ_self _)
theorem markSS_eq : ∀ (l : List (List Int)) (a : Int), 0 ≤ a → a + (l.flatten.length : Int) ≤ 4611686018427387904 → laws_markIntSS.g l a = some (a + l.flatten.length, markR a l)
  | [], a, _, _ => by simp [laws_markIntSS.g, markR]
  | x :: l, a, h0, h1 => by
    rw [List.flatten_cons, List.length_append] at h1
    rw [laws_markIntSS.g, markS_eq x a h0 (by omega), Option.bind_some, markSS_eq l (a + x.length) (by omega) (by omega), Option.bind_some, markR, List.flatten_cons, List.length_append]
    congr 2
    omega
theorem ev_heldIntSS_l : ∀ (suf pre : List (List Int)) (a : Int), 0 ≤ a → a + (suf.flatten.length : Int) ≤ 4611686018427387904 → pre.length + suf.length ≤ 4611686018427387904 → Ev (fun k => laws_heldIntSS.l0 k (pre ++ markR a suf) a (pre.length : Int)) (a + suf.flatten.length)
  | [], pre, a, h0, h1, h2 => by
    refine Ev.round (f := fun _ => some a) (fun k => ?_) (Ev.cast (Ev.now _) (by simp))
    simp only [laws_heldIntSS.l0]
    rw [if_neg (by simp [markR])]
  | x :: suf, pre, a, h0, h1, h2 => by
    rw [List.length_cons] at h2
    rw [List.flatten_cons, List.length_append] at h1
    have ih := ev_heldIntSS_l suf (pre ++ [upFrom a x.length]) (a + x.length) (by omega) (by omega) (by simp; omega)
    rw [markR]
    refine Ev.round (fun k => by simp only [laws_heldIntSS.l0]; rw [if_pos (lt_mid _ _ _), rdL_mid, show wrap64 ((pre.length : Int) + 1) = ((pre ++ [upFrom a x.length]).length : Int) by unfold wrap64; simp; omega]) ?_
    refine Ev.ite_pos (by omega) (Ev.bind (ev_heldIntS a x.length h0 (by omega)) (Ev.ite_neg (by omega) ?_))
    simp only [← snoc_mid] at ih
    exact Ev.cast ih (by rw [List.flatten_cons]; have := @List.length_append Int x suf.flatten; omega)
theorem ev_heldIntSS (l : List (List Int)) (a : Int) (h0 : 0 ≤ a) (h1 : a + (l.flatten.length : Int) ≤ 4611686018427387904) (h2 : l.length ≤ 4611686018427387904) : Ev (fun k => laws_heldIntSS.f k (markR a l) a) (a + l.flatten.length) := ev_heldIntSS_l l [] a h0 h1 (by simpa using h2)
theorem flat_le {l : List (List Int)} {m : Nat} : ∀ (_ : ∀ x ∈ l, x.length ≤ m), l.flatten.length ≤ l.length * m := by
  induction l with
  | nil => intro _; simp
  | cons x l ih =>
    intro h
    have h1 := ih (fun y hy => h y (by simp [hy]))
    have h2 := h x (by simp)
    rw [List.flatten_cons, List.length_append, List.length_cons, Nat.succ_mul]
    omega
theorem flowing_true {net l : List (List Int)} (h : Ev (fun k => impl_isFlowing.f k net l) true) : netB l = true ∧ l.length = net.length := by
  obtain ⟨K, h⟩ := h
  have h := h K (Nat.le_refl _)
  simp only [impl_isFlowing.f] at h
  obtain ⟨t, _, h⟩ := Option.bind_eq_some_iff.mp h
  by_cases ct : t = true
  · rw [if_pos ct, areRows_eq, Option.bind_some] at h
    by_cases c : netB l = true
    · rw [if_pos c] at h
      by_cases d : (l.length : Int) = (net.length : Int)
      · exact ⟨c, by omega⟩
      · rw [if_neg d] at h; simp at h
    · rw [if_neg c] at h; simp at h
  · rw [if_neg ct] at h; simp at h
theorem implFlowing_not {net l : List (List Int)} (hg : ¬ goodNetB net = true) : Ev (fun k => impl_isFlowing.f k net l) false := by
  unfold impl_isFlowing.f
  exact Ev.bind (ev_implGoodNet net) (Ev.ite_neg hg (Ev.now _))
theorem own_copy (F : List (List Int)) (hn : F.length ≤ 8) (hx : ∀ x ∈ F, x.length ≤ 8) : ∀ (suf pre : List (List Int)), F = pre ++ suf → Ev (fun k => spec_l13Own.l0 k pre F (F.length : Int) (pre.length : Int)) F
  | [], pre, e => by
    refine Ev.round (f := fun _ => some pre) (fun k => by simp only [spec_l13Own.l0]; rw [if_neg (by rw [e]; simp)]) (Ev.cast (Ev.now _) (by rw [e]; simp))
  | x :: suf, pre, e => by
    have ih := own_copy F hn hx suf (pre ++ [x]) (by rw [e]; simp)
    have h1 : (pre.length : Int) < (F.length : Int) := by rw [e]; exact lt_mid _ _ _
    have h2 : rd_L1 F (pre.length : Int) = x := by rw [e]; exact rdL_mid _ _ _
    have h3 : wrap64 ((pre.length : Int) + 1) = ((pre ++ [x]).length : Int) := by rw [List.length_append, List.length_singleton]; unfold wrap64; omega
    have hxl := hx x (by rw [e]; simp)
    refine Ev.round (fun k => by simp only [spec_l13Own.l0]; rw [if_pos h1, if_pos (by omega), if_pos h1, Option.bind_some, h2, h3]) ?_
    exact Ev.ite_pos (by simp; omega) (Ev.ite_pos (by omega) ih)
theorem ev_own (F : List (List Int)) (hn : F.length ≤ 8) (hx : ∀ x ∈ F, x.length ≤ 8) : Ev (fun k => spec_l13Own.f k F) F := own_copy F hn hx F [] rfl
theorem clone_all (W F : List (List Int)) (way : List Int) (R : List (List Int) × Int) (hn : F.length ≤ 8) (hx : ∀ x ∈ F, x.length ≤ 8) (h : Ev (fun k => impl_pushed.l1 k W F way F 2500 1) R) : ∀ (suf pre : List (List Int)), F = pre ++ suf → Ev (fun k => impl_pushed.l0 k W F way pre 2500 F (F.length : Int) (pre.length : Int)) R
  | [], pre, e => by
    have e' : pre = F := by rw [e]; simp
    refine Ev.round (fun k => by simp only [impl_pushed.l0]; rw [if_neg (by rw [e]; simp)]) ?_
    rw [e']
    exact h
  | x :: suf, pre, e => by
    have ih := clone_all W F way R hn hx h suf (pre ++ [x]) (by rw [e]; simp)
    have h1 : (pre.length : Int) < (F.length : Int) := by rw [e]; exact lt_mid _ _ _
    have h2 : rd_L1 F (pre.length : Int) = x := by rw [e]; exact rdL_mid _ _ _
    have h3 : wrap64 ((pre.length : Int) + 1) = ((pre ++ [x]).length : Int) := by rw [List.length_append, List.length_singleton]; unfold wrap64; omega
    have hxl := hx x (by rw [e]; simp)
    have hc : slices_Clone_int_int.f x = some x := if_pos (by omega)
    refine Ev.round (fun k => by simp only [impl_pushed.l0]; rw [if_pos h1, if_pos (by omega), if_pos h1, h2, hc, Option.bind_some, h3]) ?_
    exact Ev.ite_pos (by omega) ih
theorem room_at (W F : List (List Int)) (n : Nat) (hW : W.length = n) (hF : F.length = n) (hWx : ∀ x ∈ W, x.length = n ∧ ∀ v ∈ x, 0 ≤ v ∧ v ≤ 50) (hFx : ∀ x ∈ F, x.length = n ∧ ∀ v ∈ x, 0 ≤ v ∧ v ≤ 50) (a b : Int) (ha : 0 ≤ a ∧ a < (n : Int)) (hb : 0 ≤ b ∧ b < (n : Int)) : ∃ z, z ≤ 100 ∧ spec_l13Room.f W F a b = some z ∧ impl_room.f W F a b = some z := by
  have m1 := hWx _ (rdL_mem (l := W) ha.1 (by omega))
  have m2 := hFx _ (rdL_mem (l := F) ha.1 (by omega))
  have m3 := hFx _ (rdL_mem (l := F) hb.1 (by omega))
  have v1 := m1.2 (rd (rd_L1 W a) b) (by unfold rd; exact getD_mem _ (by omega))
  have v2 := m2.2 (rd (rd_L1 F a) b) (by unfold rd; exact getD_mem _ (by omega))
  have v3 := m3.2 (rd (rd_L1 F b) a) (by unfold rd; exact getD_mem _ (by omega))
  have h1 := m1.1
  have h2 := m2.1
  have h3 := m3.1
  refine ⟨wrap64 ((wrap64 ((rd (rd_L1 W a) b) - (rd (rd_L1 F a) b))) + (rd (rd_L1 F b) a)), by unfold wrap64; omega, ?_, ?_⟩
  · unfold spec_l13Room.f
    rw [if_pos ha.1, if_pos (by omega), if_pos hb.1, if_pos (by omega), if_pos (by omega), if_pos (by omega), if_pos (by omega), if_pos (by omega)]
  · unfold impl_room.f
    rw [if_pos ha.1, if_pos (by omega), if_pos hb.1, if_pos (by omega), if_pos (by omega), if_pos (by omega), if_pos (by omega), if_pos (by omega)]
/-- All halls of a way are halls of the net. -/
def inN (n : Nat) (way : List Int) : Prop := ∀ v ∈ way, 0 ≤ v ∧ v < (n : Int)
theorem inN_rd {n : Nat} {way : List Int} (h : inN n way) {i : Int} (h0 : 0 ≤ i) (h1 : i < (way.length : Int)) : 0 ≤ rd way i ∧ rd way i < (n : Int) := h _ (by unfold rd; exact getD_mem _ (by omega))
theorem rooms_go (W F : List (List Int)) (way : List Int) (n : Nat) (hW : W.length = n) (hF : F.length = n) (hWx : ∀ x ∈ W, x.length = n ∧ ∀ v ∈ x, 0 ≤ v ∧ v ≤ 50) (hFx : ∀ x ∈ F, x.length = n ∧ ∀ v ∈ x, 0 ≤ v ∧ v ≤ 50) (hw : inN n way) (hl : way.length ≤ 4611686018427387904) : ∀ (m i : Nat) (b : Int), 1 ≤ i → i + m = way.length →
    ∃ mu, spec_l13Push.by_ W F way m i b = some mu ∧ ∀ R, Ev (fun k => impl_pushed.l2 k way F mu 1) R → Ev (fun k => impl_pushed.l1 k W F way F b (i : Int)) R
  | 0, i, b, h1, hm => by
    refine ⟨b, rfl, fun R h => Ev.round (fun k => by simp only [impl_pushed.l1]; rw [if_neg (by omega)]) h⟩
  | m + 1, i, b, h1, hm => by
    obtain ⟨z, hz, r1, r2⟩ := room_at W F n hW hF hWx hFx (rd way ((i : Int) - 1)) (rd way (i : Int)) (inN_rd hw (by omega) (by omega)) (inN_rd hw (by omega) (by omega))
    obtain ⟨mu, e1, e2⟩ := rooms_go W F way n hW hF hWx hFx hw hl m (i + 1) (if z < b then z else b) (by omega) (by omega)
    have hw1 : wrap64 ((i : Int) - 1) = (i : Int) - 1 := by unfold wrap64; omega
    have hw2 : wrap64 ((i : Int) + 1) = ((i + 1 : Nat) : Int) := by unfold wrap64; omega
    refine ⟨mu, by rw [spec_l13Push.by_, r1, Option.bind_some]; exact e1, fun R h => ?_⟩
    refine Ev.round (fun k => by simp only [impl_pushed.l1]; rw [if_pos (by omega), hw1, if_pos (by omega), if_pos (by omega), if_pos (by omega), r2, Option.bind_some, hw2]) ?_
    exact e2 R h
theorem rooms_all (W F : List (List Int)) (way : List Int) (n : Nat) (hW : W.length = n) (hF : F.length = n) (hWx : ∀ x ∈ W, x.length = n ∧ ∀ v ∈ x, 0 ≤ v ∧ v ≤ 50) (hFx : ∀ x ∈ F, x.length = n ∧ ∀ v ∈ x, 0 ≤ v ∧ v ≤ 50) (hw : inN n way) (hl : way.length ≤ 4611686018427387904) (h2 : 2 ≤ way.length) :
    ∃ mu, spec_l13Push.by_ W F way (way.length - 1) 1 100 = some mu ∧ ∀ R, Ev (fun k => impl_pushed.l2 k way F mu 1) R → Ev (fun k => impl_pushed.l1 k W F way F 2500 1) R := by
  obtain ⟨z, hz, r1, r2⟩ := room_at W F n hW hF hWx hFx (rd way 0) (rd way 1) (inN_rd hw (by omega) (by omega)) (inN_rd hw (by omega) (by omega))
  obtain ⟨mu, e1, e2⟩ := rooms_go W F way n hW hF hWx hFx hw hl (way.length - 2) 2 z (by omega) (by omega)
  refine ⟨mu, ?_, fun R h => ?_⟩
  · rw [show way.length - 1 = (way.length - 2) + 1 by omega, spec_l13Push.by_]
    have e : (((1 : Nat) : Int) - 1) = 0 := rfl
    rw [e, show ((1 : Nat) : Int) = 1 from rfl, r1, Option.bind_some, show (if z < 100 then z else 100) = z by split <;> omega]
    exact e1
  · refine Ev.round (fun k => by simp only [impl_pushed.l1]; rw [if_pos (by omega), show wrap64 ((1 : Int) - 1) = 0 by unfold wrap64; omega, if_pos (by omega), if_pos (by omega), if_pos (by omega), r2, Option.bind_some, show mn 2500 z = z by unfold mn; split <;> omega, show wrap64 ((1 : Int) + 1) = 2 by unfold wrap64; omega]) ?_
    exact e2 R h
theorem set_len {F : List (List Int)} {n : Nat} (h : ∀ x ∈ F, x.length = n) {i : Nat} {y : List Int} (hy : y.length = n) : ∀ x ∈ F.set i y, x.length = n := by
  intro x hx
  rcases List.mem_or_eq_of_mem_set hx with h' | h'
  · exact h x h'
  · rw [h']; exact hy
theorem puts_go (way : List Int) (n : Nat) (mu : Int) (hw : inN n way) (hl : way.length ≤ 4611686018427387904) : ∀ (m i : Nat) (F : List (List Int)), 1 ≤ i → i + m = way.length → F.length = n → (∀ x ∈ F, x.length = n) →
    ∃ F', (F'.length = n ∧ ∀ x ∈ F', x.length = n) ∧ spec_l13Push.put_ way mu m i F = some F' ∧ Ev (fun k => impl_pushed.l2 k way F mu (i : Int)) (F', mu)
  | 0, i, F, h1, hm, hF, hx => by
    refine ⟨F, ⟨hF, hx⟩, rfl, Ev.round (f := fun _ => some (F, mu)) (fun k => by simp only [impl_pushed.l2]; rw [if_neg (by omega)]) (Ev.now _)⟩
  | m + 1, i, F, h1, hm, hF, hx => by
    have hb := inN_rd hw (show (0 : Int) ≤ (i : Int) by omega) (by omega)
    have ha := inN_rd hw (show (0 : Int) ≤ (i : Int) - 1 by omega) (by omega)
    have hw1 : wrap64 ((i : Int) - 1) = (i : Int) - 1 := by unfold wrap64; omega
    have hw2 : wrap64 ((i : Int) + 1) = ((i + 1 : Nat) : Int) := by unfold wrap64; omega
    generalize hB : rd way (i : Int) = b at hb
    generalize hA : rd way ((i : Int) - 1) = a at ha
    have l1 := hx _ (rdL_mem hb.1 (by omega))
    have hback : mn mu (rd (rd_L1 F b) a) = spec_l13Push.back F a b mu := by
      unfold mn spec_l13Push.back
      split <;> split <;> omega
    have hone : F.set b.toNat ((rd_L1 F b).set a.toNat (wrap64 (rd (rd_L1 F b) a - mn mu (rd (rd_L1 F b) a)))) = spec_l13Push.one F a b mu := by rw [hback]; rfl
    have ol : (spec_l13Push.one F a b mu).length = n := by unfold spec_l13Push.one; rw [List.length_set]; exact hF
    have ox : ∀ x ∈ spec_l13Push.one F a b mu, x.length = n := by unfold spec_l13Push.one; exact set_len hx (by rw [List.length_set]; exact l1)
    have l2 := ox _ (rdL_mem (l := spec_l13Push.one F a b mu) ha.1 (by omega))
    have tl : (spec_l13Push.two F a b mu).length = n := by unfold spec_l13Push.two; rw [List.length_set]; exact ol
    have tx : ∀ x ∈ spec_l13Push.two F a b mu, x.length = n := by unfold spec_l13Push.two; exact set_len ox (by rw [List.length_set]; exact l2)
    obtain ⟨F', s1, e1, e2⟩ := puts_go way n mu hw hl m (i + 1) (spec_l13Push.two F a b mu) (by omega) (by omega) tl tx
    refine ⟨F', s1, ?_, ?_⟩
    · rw [spec_l13Push.put_, hB, hA, if_pos (by refine ⟨⟨⟨hb.1, by omega⟩, ⟨ha.1, by omega⟩⟩, ⟨by omega, by omega⟩⟩)]
      exact e1
    · refine Ev.round (fun k => by simp only [impl_pushed.l2]; rw [if_pos (by omega), hw1, if_pos (by omega), if_pos (by omega), if_pos (by omega), hB, hA, if_pos hb.1, if_pos (by omega), if_pos ha.1, if_pos (by omega), Option.bind_some, hone, hback, if_pos (by omega), if_pos (by omega), hw2]) ?_
      exact e2
theorem same_pushed (W F : List (List Int)) (way : List Int) (n : Nat) (hn : n ≤ 8) (hW : W.length = n) (hF : F.length = n) (hWx : ∀ x ∈ W, x.length = n ∧ ∀ v ∈ x, 0 ≤ v ∧ v ≤ 50) (hFx : ∀ x ∈ F, x.length = n ∧ ∀ v ∈ x, 0 ≤ v ∧ v ≤ 50) (hw : inN n way) (hl : way.length ≤ 4611686018427387904) (h2 : 2 ≤ way.length) :
    ∃ F' mu, (F'.length = n ∧ ∀ x ∈ F', x.length = n) ∧ spec_l13Push.g W F way = some (mu, F') ∧ Ev (fun k => impl_pushed.f k W F way) (F', mu) := by
  obtain ⟨mu, e1, e2⟩ := rooms_all W F way n hW hF hWx hFx hw hl h2
  obtain ⟨F', s, e3, e4⟩ := puts_go way n mu hw hl (way.length - 1) 1 F (by omega) (by omega) hF (fun x hx => (hFx x hx).1)
  refine ⟨F', mu, s, ?_, ?_⟩
  · unfold spec_l13Push.g
    rw [e1, Option.bind_some, e3, Option.bind_some]
  · unfold impl_pushed.f
    exact clone_all W F way _ (by omega) (fun x hx => by have := (hFx x hx).1; omega) (e2 _ e4) F [] rfl
theorem chk_go (W F : List (List Int)) (way : List Int) (n : Nat) (hn : n ≤ 8) (hW : W.length = n) (hF : F.length = n) (hWx : ∀ x ∈ W, x.length = n ∧ ∀ v ∈ x, 0 ≤ v ∧ v ≤ 50) (hFx : ∀ x ∈ F, x.length = n ∧ ∀ v ∈ x, 0 ≤ v ∧ v ≤ 50) (hl : way.length ≤ 4611686018427387904) : ∀ (suf pre : List Int), way = pre ++ suf → inN n pre →
    ∃ b : Bool, Ev (fun k => spec_PushWay.chk k W F way pre suf) b ∧ (b = true → inN n suf) ∧ (inN n suf → (b = true → ∀ R, Ev (fun k => (impl_pushed.f k W F way).bind fun q => some (q.1, q.2, true)) R → Ev (fun k => impl_PushWay.l0 k W F way (way.length : Int) (pre.length : Int)) R) ∧ (b = false → Ev (fun k => impl_PushWay.l0 k W F way (way.length : Int) (pre.length : Int)) ([], 0, false)))
  | [], pre, e, hp => by
    refine ⟨true, Ev.eqv (g := fun k => spec_PushWay.chk k W F way pre []) (fun k => rfl) (Ev.now true), fun _ v hv => absurd hv (by simp), fun _ => ⟨fun _ R h => Ev.round (fun k => by simp only [impl_PushWay.l0]; rw [if_neg (by rw [e]; simp)]) h, nofun⟩⟩
  | x :: suf, pre, e, hp => by
    have hc : ∀ k, spec_PushWay.chk k W F way pre (x :: suf) = if x < 0 then some false else if x ≥ (W.length : Int) then some false else (spec_l1Has.f k pre x).bind fun t => if t = true then some false else if pre = [] then spec_PushWay.chk k W F way (pre ++ [x]) suf else (spec_l13Room.f W F (rd way ((pre.length : Int) - 1)) x).bind fun q => if q ≤ 0 then some false else spec_PushWay.chk k W F way (pre ++ [x]) suf := fun _ => rfl
    have h1 : (pre.length : Int) < (way.length : Int) := by rw [e]; exact lt_mid _ _ _
    have h2 : rd way (pre.length : Int) = x := by rw [e]; exact rd_mid _ _ _
    have h3 : wrap64 ((pre.length : Int) + 1) = ((pre ++ [x]).length : Int) := by rw [List.length_append, List.length_singleton]; unfold wrap64; omega
    have h4 : way.take (pre.length : Int).toNat = pre := by rw [Int.toNat_natCast, e]; simp
    have hw1 : wrap64 ((pre.length : Int) - 1) = (pre.length : Int) - 1 := by unfold wrap64; omega
    by_cases c1 : x < 0
    · exact ⟨false, Ev.eqv hc (Ev.ite_pos c1 (Ev.now _)), nofun, fun h => by have := (h x (by simp)).1; omega⟩
    by_cases c2 : x ≥ (W.length : Int)
    · exact ⟨false, Ev.eqv hc (Ev.ite_neg c1 (Ev.ite_pos c2 (Ev.now _))), nofun, fun h => by have := (h x (by simp)).2; omega⟩
    have hx : 0 ≤ x ∧ x < (n : Int) := by omega
    have hHas := ev_l1Has pre x (by omega)
    have hCon := ev_Contains pre x (by omega)
    have himp : ∀ {R}, Ev (fun k => (slices_Contains_int_int.f k pre x).bind fun t => (if t = true then (some (([] : List (List Int)), 0, false)) else (if (pre.length : Int) > 0 then (if 0 ≤ (wrap64 ((pre.length : Int) - 1)) then (if (wrap64 ((pre.length : Int) - 1)) < (way.length : Int) then ((impl_room.f W F (rd way (wrap64 ((pre.length : Int) - 1))) (rd way (pre.length : Int))).bind fun t220 => (if t220 ≤ 0 then (some (([] : List (List Int)), 0, false)) else (impl_PushWay.l0 k W F way (way.length : Int) (wrap64 ((pre.length : Int) + 1))))) else (none)) else (none)) else (impl_PushWay.l0 k W F way (way.length : Int) (wrap64 ((pre.length : Int) + 1)))))) R → Ev (fun k => impl_PushWay.l0 k W F way (way.length : Int) (pre.length : Int)) R := by
      intro R h
      refine Ev.round (fun k => by simp only [impl_PushWay.l0]; rw [if_pos h1, if_pos (by omega), if_pos (by omega), if_pos h1, h4]) ?_
      simpa only [h2] using h
    have hpx : inN n (pre ++ [x]) := fun v hv => by
      rcases List.mem_append.1 hv with h | h
      · exact hp v h
      · rw [List.mem_singleton.1 h]; exact hx
    obtain ⟨b, i1, i2, i3⟩ := chk_go W F way n hn hW hF hWx hFx hl suf (pre ++ [x]) (by rw [e]; simp) hpx
    have hsuf : inN n (x :: suf) → inN n suf := fun h v hv => h v (by simp [hv])
    have hcons : inN n suf → inN n (x :: suf) := fun h v hv => by
      rcases List.mem_cons.1 hv with h' | h'
      · rw [h']; exact hx
      · exact h v h'
    by_cases c3 : x ∈ pre
    · refine ⟨false, Ev.eqv hc (Ev.ite_neg c1 (Ev.ite_neg c2 (Ev.bind hHas (Ev.ite_pos (decide_eq_true c3) (Ev.now _))))), nofun, fun _ => ⟨nofun, fun _ => himp (Ev.bind hCon (Ev.ite_pos (decide_eq_true c3) (Ev.now _)))⟩⟩
    · have nd : ¬ (decide (x ∈ pre) = true) := by simpa using c3
      by_cases c4 : pre = []
      · have hz : ¬ ((pre.length : Int) > 0) := by rw [c4]; simp
        refine ⟨b, Ev.eqv hc (Ev.ite_neg c1 (Ev.ite_neg c2 (Ev.bind hHas (Ev.ite_neg nd (Ev.ite_pos c4 i1))))), fun h => hcons (i2 h), fun h => ⟨fun hb R hR => himp (Ev.bind hCon (Ev.ite_neg nd (Ev.ite_neg hz (by rw [h3]; exact (i3 (hsuf h)).1 hb R hR)))), fun hb => himp (Ev.bind hCon (Ev.ite_neg nd (Ev.ite_neg hz (by rw [h3]; exact (i3 (hsuf h)).2 hb))))⟩⟩
      · have hpos : 0 < pre.length := List.length_pos_iff.2 c4
        have hprev : rd way ((pre.length : Int) - 1) ∈ pre := by
          rw [show ((pre.length : Int) - 1) = ((pre.length - 1 : Nat) : Int) by omega]
          show way.getD ((pre.length - 1 : Nat) : Int).toNat 0 ∈ pre
          rw [Int.toNat_natCast, e, List.getD_eq_getElem?_getD, List.getElem?_append_left (by omega), ← List.getD_eq_getElem?_getD]
          exact getD_mem _ (by omega)
        obtain ⟨z, hz, r1, r2⟩ := room_at W F n hW hF hWx hFx (rd way ((pre.length : Int) - 1)) x (hp _ hprev) hx
        by_cases c5 : z ≤ 0
        · refine ⟨false, Ev.eqv hc (Ev.ite_neg c1 (Ev.ite_neg c2 (Ev.bind hHas (Ev.ite_neg nd (Ev.ite_neg c4 (Ev.bindc r1 (Ev.ite_pos c5 (Ev.now _)))))))), nofun, fun _ => ⟨nofun, fun _ => himp (Ev.bind hCon (Ev.ite_neg nd (Ev.ite_pos (by omega) ?_)))⟩⟩
          rw [hw1, h2]
          exact Ev.ite_pos (by omega) (Ev.ite_pos (by omega) (Ev.bindc r2 (Ev.ite_pos c5 (Ev.now _))))
        · have himp2 : ∀ {R}, Ev (fun k => impl_PushWay.l0 k W F way (way.length : Int) ((pre ++ [x]).length : Int)) R → Ev (fun k => impl_PushWay.l0 k W F way (way.length : Int) (pre.length : Int)) R := fun h => himp (Ev.bind hCon (Ev.ite_neg nd (Ev.ite_pos (by omega) (by
            rw [hw1, h2, h3]
            exact Ev.ite_pos (by omega) (Ev.ite_pos (by omega) (Ev.bindc r2 (Ev.ite_neg c5 h)))))))
          exact ⟨b, Ev.eqv hc (Ev.ite_neg c1 (Ev.ite_neg c2 (Ev.bind hHas (Ev.ite_neg nd (Ev.ite_neg c4 (Ev.bindc r1 (Ev.ite_neg c5 i1))))))), fun h => hcons (i2 h), fun h => ⟨fun hb R hR => himp2 ((i3 (hsuf h)).1 hb R hR), fun hb => himp2 ((i3 (hsuf h)).2 hb)⟩⟩
theorem same_PushWay (W F : List (List Int)) (way : List Int) (hm : W.length ≤ 9223372036854775807) (hmx : ∀ x ∈ W, x.length ≤ 9223372036854775807) (hn : F.length ≤ 9223372036854775807) (hx : ∀ x ∈ F, x.length ≤ 9223372036854775807) (hl : way.length ≤ 4611686018427387904) :
    ∃ (r : List (List Int)) (mu : Int) (b : Bool), (r.length ≤ 8 ∧ ∀ x ∈ r, x.length ≤ 8) ∧ Ev (fun k => spec_PushWay.f k W F way) (r, mu, b) ∧ Ev (fun k => impl_PushWay.f k W F way) (r, mu, b) := by
  have hz : ∀ k, impl_PushWay.j0 (k + 1) W F way true = some ([], 0, false) := fun k => by simp only [impl_PushWay.j0]; rw [if_pos trivial]
  have ez : Ev (fun k => impl_PushWay.j0 k W F way true) ([], 0, false) := Ev.round (f := fun _ => some ([], 0, false)) hz (Ev.now _)
  unfold spec_PushWay.f impl_PushWay.f
  by_cases hg : goodNetB W = true
  case neg => exact ⟨[], 0, false, ⟨by simp, by simp⟩, Ev.bind (ev_GoodNet W hm hmx) (Ev.ite_neg hg (Ev.now _)), Ev.bind (implFlowing_not hg) (Ev.ite_neg (by decide) ez)⟩
  obtain ⟨t, f1, f2⟩ := same_Flow W F hg hn hx
  cases t with
  | false => exact ⟨[], 0, false, ⟨by simp, by simp⟩, Ev.bind (ev_GoodNet W hm hmx) (Ev.ite_pos hg (Ev.bind f1 (Ev.ite_neg (by decide) (Ev.now _)))), Ev.bind f2 (Ev.ite_neg (by decide) ez)⟩
  | true =>
    obtain ⟨hF, hFl⟩ := flowing_true f2
    have hN := goodNetB_iff hg
    have hFi := netB_iff hF
    have hWx : ∀ x ∈ W, x.length = W.length ∧ ∀ v ∈ x, 0 ≤ v ∧ v ≤ 50 := hN.2
    have hFx : ∀ x ∈ F, x.length = W.length ∧ ∀ v ∈ x, 0 ≤ v ∧ v ≤ 50 := fun x hx => by have := hFi.2 x hx; rw [hFl] at this; exact this
    have hw1 : wrap64 ((W.length : Int) - 1) = (W.length : Int) - 1 := by unfold wrap64; omega
    have hw2 : wrap64 ((way.length : Int) - 1) = (way.length : Int) - 1 := by unfold wrap64; omega
    have sgo : ∀ {R}, Ev (fun k => if way.length < 2 then some ([], 0, false) else (if rd way 0 = 0 then (if rd way ((way.length : Int) - 1) = (W.length : Int) - 1 then ((spec_PushWay.chk k W F way [] way).bind fun b => if b = true then spec_PushWay.do_ k W F way else some ([], 0, false)) else some ([], 0, false)) else some ([], 0, false))) R → Ev (fun k => (spec_GoodNet.f k W).bind fun t => if t = true then ((spec_l13Flow.f k W F).bind fun t2 => if t2 = true then (if way.length < 2 then some ([], 0, false) else (if rd way 0 = 0 then (if rd way ((way.length : Int) - 1) = (W.length : Int) - 1 then ((spec_PushWay.chk k W F way [] way).bind fun b => if b = true then spec_PushWay.do_ k W F way else some ([], 0, false)) else some ([], 0, false)) else some ([], 0, false))) else some ([], 0, false)) else some ([], 0, false)) R := fun h => Ev.bind (ev_GoodNet W hm hmx) (Ev.ite_pos hg (Ev.bind f1 (Ev.ite_pos rfl h)))
    by_cases g1 : way.length < 2
    · exact ⟨[], 0, false, ⟨by simp, by simp⟩, sgo (Ev.ite_pos g1 (Ev.now _)), Ev.bind f2 (Ev.ite_pos rfl (Ev.ite_pos (by omega) ez))⟩
    have g1' : ¬ ((way.length : Int) < 2) := by omega
    by_cases g2 : inN W.length way
    case neg =>
      have hall : ¬ (allIn way 0 (wrap64 ((W.length : Int) - 1)) = true) := fun h => g2 fun v hv => by have := (allIn_iff.1 h) v hv; omega
      obtain ⟨b, i1, i2, i3⟩ := chk_go W F way W.length (by omega) rfl hFl hWx hFx hl way [] rfl (fun v hv => absurd hv (by simp))
      have hb : b = false := by
        cases b with
        | false => rfl
        | true => exact absurd (i2 rfl) g2
      subst hb
      refine ⟨[], 0, false, ⟨by simp, by simp⟩, sgo (Ev.ite_neg g1 ?_), Ev.bind f2 (Ev.ite_pos rfl (Ev.ite_neg g1' (Ev.bindc (allWithin_eq way 0 _) (Ev.ite_neg hall ez))))⟩
      by_cases g3 : rd way 0 = 0
      · refine Ev.ite_pos g3 ?_
        by_cases g4 : rd way ((way.length : Int) - 1) = (W.length : Int) - 1
        · exact Ev.ite_pos g4 (Ev.bind i1 (Ev.ite_neg (by decide) (Ev.now _)))
        · exact Ev.ite_neg g4 (Ev.now _)
      · exact Ev.ite_neg g3 (Ev.now _)
    have hall : allIn way 0 (wrap64 ((W.length : Int) - 1)) = true := allIn_iff.2 fun v hv => by have := g2 v hv; omega
    by_cases g3 : rd way 0 = 0
    case neg => exact ⟨[], 0, false, ⟨by simp, by simp⟩, sgo (Ev.ite_neg g1 (Ev.ite_neg g3 (Ev.now _))), Ev.bind f2 (Ev.ite_pos rfl (Ev.ite_neg g1' (Ev.bindc (allWithin_eq way 0 _) (Ev.ite_pos hall (Ev.ite_pos (by omega) (Ev.ite_neg g3 ez))))))⟩
    by_cases g4 : rd way ((way.length : Int) - 1) = (W.length : Int) - 1
    case neg =>
      refine ⟨[], 0, false, ⟨by simp, by simp⟩, sgo (Ev.ite_neg g1 (Ev.ite_pos g3 (Ev.ite_neg g4 (Ev.now _)))), Ev.bind f2 (Ev.ite_pos rfl (Ev.ite_neg g1' (Ev.bindc (allWithin_eq way 0 _) (Ev.ite_pos hall (Ev.ite_pos (by omega) (Ev.ite_pos g3 ?_))))))⟩
      rw [hw2]
      refine Ev.ite_pos (by omega) (Ev.ite_pos (by omega) ?_)
      rw [hw1, show (rd way ((way.length : Int) - 1) != (W.length : Int) - 1) = true by simpa using g4]
      exact ez
    obtain ⟨b, i1, i2, i3⟩ := chk_go W F way W.length (by omega) rfl hFl hWx hFx hl way [] rfl (fun v hv => absurd hv (by simp))
    have igo : ∀ {R}, Ev (fun k => impl_PushWay.l0 k W F way (way.length : Int) (([] : List Int).length : Int)) R → Ev (fun k => (impl_isFlowing.f k W F).bind fun t207 => (if t207 = true then (if (way.length : Int) < 2 then (impl_PushWay.j0 k W F way true) else ((impl_allWithin.f way 0 (wrap64 ((W.length : Int) - 1))).bind fun t208 => (if t208 = true then (if 0 < (way.length : Int) then (if (rd way 0) = 0 then (if 0 ≤ (wrap64 ((way.length : Int) - 1)) then (if (wrap64 ((way.length : Int) - 1)) < (way.length : Int) then (impl_PushWay.j0 k W F way ((rd way (wrap64 ((way.length : Int) - 1))) != (wrap64 ((W.length : Int) - 1)))) else (none)) else (none)) else (impl_PushWay.j0 k W F way true)) else (none)) else (impl_PushWay.j0 k W F way true)))) else (impl_PushWay.j0 k W F way true))) R := by
      intro R h
      refine Ev.bind f2 (Ev.ite_pos rfl (Ev.ite_neg g1' (Ev.bindc (allWithin_eq way 0 _) (Ev.ite_pos hall (Ev.ite_pos (by omega) (Ev.ite_pos g3 ?_))))))
      rw [hw2]
      refine Ev.ite_pos (by omega) (Ev.ite_pos (by omega) ?_)
      rw [hw1, show (rd way ((way.length : Int) - 1) != (W.length : Int) - 1) = false by simpa using g4]
      exact Ev.round (fun k => by simp only [impl_PushWay.j0]; rw [if_neg (by decide)]; rfl) h
    cases b with
    | false => exact ⟨[], 0, false, ⟨by simp, by simp⟩, sgo (Ev.ite_neg g1 (Ev.ite_pos g3 (Ev.ite_pos g4 (Ev.bind i1 (Ev.ite_neg (by decide) (Ev.now _)))))), igo ((i3 g2).2 rfl)⟩
    | true =>
      obtain ⟨F', mu, ⟨s1, s2⟩, e1, e2⟩ := same_pushed W F way W.length (by omega) rfl hFl hWx hFx g2 hl (by omega)
      refine ⟨F', mu, true, ⟨by omega, fun x hx => by have := s2 x hx; omega⟩, sgo (Ev.ite_neg g1 (Ev.ite_pos g3 (Ev.ite_pos g4 (Ev.bind i1 (Ev.ite_pos rfl ?_))))), igo ((i3 g2).1 rfl _ (Ev.bind e2 (Ev.now _)))⟩
      unfold spec_PushWay.do_
      refine Ev.bind (ev_own F (by omega) (fun x hx => by have := (hFx x hx).1; omega)) (Ev.ite_pos (by omega) ?_)
      exact Ev.bindc e1 (Ev.now _)
end Go.Proofs.Ytdbepjnapjjlcaa.Pure
