import Derived.Test.YtdlblaihleojmaaGLIsCover0
import Derived.Test.YtdlblaihleojmaaGLIsCover1
import Derived.Test.YtdlblaihleojmaaGLIsCover2
import Derived.Test.YtdlblaihleojmaaGLIsCover3
import Derived.Test.YtdlblaihleojmaaGLIsCover4
import Derived.Test.YtdlblaihleojmaaGLIsCover5
namespace Go.Proofs.Ytdlblaihleojmaa.Pure
open Go.RowKit Go.Proofs.Ytdlblaihleojmaa.GLIsCover Go.Proofs.YtdlblaihleojmaaW.PrintWords Go.Proofs.YtdlblaihleojmaaW.PrintLast Go.Proofs.YtdlblaihleojmaaW.PrintMore Go.Proofs.YtdlblaihleojmaaW.PrintOwn
set_option linter.unusedVariables false
set_option linter.unusedSimpArgs false
/-! rounds: what a loop over a list answers -/
theorem Ev.det {α : Type} {g : Nat → Option α} {r : α} (h : ∀ k, g k = some r) : Ev g r := ⟨0, fun k _ => h k⟩
theorem Ev.bind' {α β : Type} {g : Nat → Option α} {f : Nat → α → Option β} {a : α} {r : β} (h : Ev g a) (k : Ev (fun n => f n a) r) : Ev (fun n => (g n).bind (f n)) r := Ev.bind h k
theorem Ev.bindc {α β : Type} {g : Option α} {f : Nat → α → Option β} {a : α} {r : β} (h : g = some a) (k : Ev (fun n => f n a) r) : Ev (fun n => g.bind (f n)) r := by
  subst h
  exact k
/-- One round. -/
theorem Ev.round {α : Type} {g f : Nat → Option α} {r : α} (h : ∀ k, g (k + 1) = f k) (k : Ev f r) : Ev g r := Ev.step h k
theorem Ev.eqv {α : Type} {g f : Nat → Option α} {r : α} (h : ∀ k, g k = f k) (k : Ev f r) : Ev g r := Ev.congr h k
theorem Ev.cast {α : Type} {g : Nat → Option α} {r r' : α} (h : Ev g r) (e : r = r') : Ev g r' := e ▸ h
theorem Ev.ite_pos {α : Type} {c : Prop} [Decidable c] {g f : Nat → Option α} {r : α} (hc : c) (k : Ev g r) : Ev (fun n => if c then g n else f n) r := by
  refine Ev.eqv (fun n => ?_) k
  rw [if_pos hc]
theorem Ev.ite_neg {α : Type} {c : Prop} [Decidable c] {g f : Nat → Option α} {r : α} (hc : ¬ c) (k : Ev f r) : Ev (fun n => if c then g n else f n) r := by
  refine Ev.eqv (fun n => ?_) k
  rw [if_neg hc]
theorem getD_mid {α : Type} (d : α) (pre suf : List α) (x : α) : (pre ++ x :: suf).getD (pre.length : Int).toNat d = x := by
  rw [Int.toNat_natCast, List.getD_eq_getElem?_getD, List.getElem?_append_right (Nat.le_refl _), Nat.sub_self]
  rfl
theorem rd_mid (pre suf : List Int) (x : Int) : rd (pre ++ x :: suf) (pre.length : Int) = x := getD_mid 0 pre suf x
theorem rdOf_mid {α : Type} (d : α) (pre suf : List α) (x : α) : rdOf d (pre ++ x :: suf) (pre.length : Int) = x := getD_mid d pre suf x
theorem lt_mid {α : Type} (pre suf : List α) (x : α) : (pre.length : Int) < ((pre ++ x :: suf).length : Int) := by
  rw [List.length_append, List.length_cons]; omega
theorem up_mid {α : Type} (pre suf : List α) (x : α) (h : (pre ++ x :: suf).length ≤ 9223372036854775807) : wrap64 ((pre.length : Int) + 1) = ((pre ++ [x]).length : Int) := by
  rw [List.length_append, List.length_cons] at h
  rw [List.length_append, List.length_singleton]
  unfold wrap64
  omega
theorem snoc_mid {α : Type} (pre suf : List α) (x : α) : pre ++ x :: suf = (pre ++ [x]) ++ suf := by simp
theorem wfb {x : Int} (h : (Lit.int .i64 x).wf = true) : -9223372036854775808 ≤ x ∧ x ≤ 9223372036854775807 := by
  simp [Lit.wf, IntKind.min, IntKind.max, IntKind.bits, IntKind.signed] at h
  omega
theorem all_wfb {l : List Int} (h : ∀ x ∈ l, (Lit.int .i64 x).wf = true) : ∀ x ∈ l, -9223372036854775808 ≤ x ∧ x ≤ 9223372036854775807 := fun x hx => wfb (h x hx)
theorem wrap_id {x : Int} (h0 : -9223372036854775808 ≤ x) (h1 : x ≤ 9223372036854775807) : wrap64 x = x := by unfold wrap64; omega

/-! slices of ints -/
/-- All numbers lie between two. -/
def allIn (l : List Int) (lo hi : Int) : Bool := l.all fun n => decide (lo ≤ n) && decide (n ≤ hi)
theorem allIn_iff {l : List Int} {lo hi : Int} : allIn l lo hi = true ↔ ∀ x ∈ l, lo ≤ x ∧ x ≤ hi := by
  unfold allIn
  rw [List.all_eq_true]
  simp
/-- Where a number first stands, -1 if nowhere. -/
def idxI (l : List Int) (n : Int) : Int := match l.findIdx? (fun x => x == n) with
  | some i => (i : Int)
  | none => -1
theorem idxI_nil (n : Int) : idxI [] n = -1 := rfl
theorem idxI_cons (x : Int) (l : List Int) (n : Int) : idxI (x :: l) n = if x = n then 0 else if idxI l n = -1 then -1 else idxI l n + 1 := by
  unfold idxI
  rw [List.findIdx?_cons]
  by_cases c : x = n
  · simp [c]
  · simp only [beq_iff_eq, c, if_false]
    cases h : l.findIdx? fun x => x == n with
    | none => simp
    | some i =>
      have : ¬ ((i : Int) = -1) := by omega
      simp [this]
theorem idxI_ge (l : List Int) (n : Int) : -1 ≤ idxI l n := by
  unfold idxI
  split <;> omega
theorem idxI_mem (l : List Int) (n : Int) : decide (idxI l n ≥ 0) = decide (n ∈ l) := by
  induction l with
  | nil => rfl
  | cons x l ih =>
    rw [idxI_cons]
    have hg := idxI_ge l n
    by_cases c : x = n
    · simp [c]
    · rw [if_neg c]
      rw [decide_eq_decide] at ih ⊢
      rw [List.mem_cons]
      split
      · have : ¬ n ∈ l := fun h => by have := ih.2 h; omega
        simp [Ne.symm c, this]
      · have : n ∈ l := ih.1 (by omega)
        simp [this]
        omega
/-- The sum, as Go's ints tell it. -/
def sumFrom (s : Int) : List Int → Int
  | [] => s
  | x :: l => sumFrom (wrap64 (s + x)) l

theorem ev_toIntS_l (l : List Int) (hn : l.length ≤ 35184372088832) : ∀ (suf pre : List Int), l = pre ++ suf → ∀ (z : List Int), z.length = suf.length → Ev (fun k => laws_toIntS.l0 k l (pre ++ z) (pre.length : Int)) l
  | [], pre, e, z, hz => by
    subst e
    have : z = [] := List.length_eq_zero_iff.1 hz
    subst this
    refine Ev.round (f := fun _ => some (pre ++ [])) (fun k => ?_) (Ev.now _)
    simp only [laws_toIntS.l0]
    rw [if_neg (by simp)]
  | x :: suf, pre, e, [], hz => by simp at hz
  | x :: suf, pre, e, y :: z, hz => by
    subst e
    have ih := ev_toIntS_l (pre ++ x :: suf) hn suf (pre ++ [x]) (snoc_mid _ _ _) z (by simpa using hz)
    refine Ev.round (fun k => ?_) ih
    simp only [laws_toIntS.l0]
    rw [if_pos (lt_mid _ _ _), if_pos (by omega), if_pos (lt_mid _ _ _), rd_mid, up_mid pre suf x (by omega)]
    congr 1
    rw [Int.toNat_natCast, List.set_append_right _ _ (Nat.le_refl _), Nat.sub_self, List.set_cons_zero]
    simp
theorem ev_toIntS (l : List Int) (hn : l.length ≤ 35184372088832) : Ev (fun k => laws_toIntS.f k l) l := by
  have h := ev_toIntS_l l hn l [] rfl (List.replicate l.length 0) (by simp)
  refine Ev.eqv (fun k => ?_) h
  unfold laws_toIntS.f
  rw [if_pos (by omega), Int.toNat_natCast, if_pos hn]
  rfl

theorem ev_eqIntS_l (a b : List Int) (hab : a.length = b.length) (hn : a.length ≤ 9223372036854775807) : ∀ (sa pa sb pb : List Int), a = pa ++ sa → b = pb ++ sb → pa.length = pb.length → Ev (fun k => laws_eqIntS.l0 k a b (pa.length : Int)) (decide (sa = sb))
  | [], pa, sb, pb, ea, eb, hp => by
    subst ea
    refine Ev.round (f := fun _ => some true) (fun k => ?_) (Ev.cast (Ev.now _) ?_)
    · simp only [laws_eqIntS.l0]
      rw [if_neg (by simp)]
    · have : sb = [] := by
        rw [eb] at hab
        simp at hab
        exact List.length_eq_zero_iff.1 (by omega)
      rw [this]; rfl
  | x :: sa, pa, [], pb, ea, eb, hp => by
    rw [ea, eb] at hab
    simp at hab
    omega
  | x :: sa, pa, y :: sb, pb, ea, eb, hp => by
    subst ea
    subst eb
    have h1 : ((pa.length : Nat) : Int) = (pb.length : Int) := by omega
    by_cases e : x = y
    · subst e
      have ih := ev_eqIntS_l (pa ++ x :: sa) (pb ++ x :: sb) hab hn sa (pa ++ [x]) sb (pb ++ [x]) (snoc_mid _ _ _) (snoc_mid _ _ _) (by simp [hp])
      refine Ev.round (fun k => ?_) (Ev.cast ih (by simp))
      simp only [laws_eqIntS.l0]
      rw [if_pos (lt_mid _ _ _), if_pos (by omega), if_pos (by rw [h1]; exact lt_mid _ _ _), rd_mid, h1, rd_mid, if_pos rfl, ← h1, up_mid _ _ _ hn]
    · refine Ev.round (f := fun _ => some false) (fun k => ?_) (Ev.cast (Ev.now _) (by simp [e]))
      simp only [laws_eqIntS.l0]
      rw [if_pos (lt_mid _ _ _), if_pos (by omega), if_pos (by rw [h1]; exact lt_mid _ _ _), rd_mid, h1, rd_mid, if_neg e]
theorem ev_eqIntS (a b : List Int) (hn : a.length ≤ 9223372036854775807) : Ev (fun k => laws_eqIntS.f k a b) (decide (a = b)) := by
  unfold laws_eqIntS.f
  by_cases h : a.length = b.length
  · exact Ev.ite_pos (by omega) (ev_eqIntS_l a b h hn a [] b [] rfl rfl rfl)
  · refine Ev.ite_neg (by omega) (Ev.cast (Ev.now _) ?_)
    rw [decide_eq_false]
    rintro rfl
    exact h rfl

theorem within_eq (a lo hi : Int) : impl_within.f a lo hi = some (decide (lo ≤ a) && decide (a ≤ hi)) := by
  unfold impl_within.f
  by_cases h : a ≥ lo
  · rw [if_pos h]; simp [h]
  · rw [if_neg h]; simp [h]

theorem allWithin_eq (l : List Int) (lo hi : Int) : impl_allWithin.f l lo hi = some (allIn l lo hi) := rfl

theorem ev_l1Has_l (l : List Int) (n : Int) (hn : l.length ≤ 9223372036854775807) : ∀ (suf pre : List Int), l = pre ++ suf → Ev (fun k => spec_l1Has.l0 k n l (l.length : Int) (pre.length : Int)) (decide (n ∈ suf))
  | [], pre, e => by
    subst e
    refine Ev.round (f := fun _ => some false) (fun k => ?_) (Ev.cast (Ev.now _) (by simp))
    simp only [spec_l1Has.l0]
    rw [if_neg (by simp)]
  | x :: suf, pre, e => by
    subst e
    by_cases c : x = n
    · refine Ev.round (f := fun _ => some true) (fun k => ?_) (Ev.cast (Ev.now _) (by simp [c]))
      simp only [spec_l1Has.l0]
      rw [if_pos (lt_mid _ _ _), if_pos (by omega), if_pos (lt_mid _ _ _), rd_mid, if_pos c]
    · have ih := ev_l1Has_l (pre ++ x :: suf) n hn suf (pre ++ [x]) (snoc_mid _ _ _)
      refine Ev.round (fun k => ?_) (Ev.cast ih (by simp [Ne.symm c]))
      simp only [spec_l1Has.l0]
      rw [if_pos (lt_mid _ _ _), if_pos (by omega), if_pos (lt_mid _ _ _), rd_mid, if_neg c, up_mid _ _ _ hn]
theorem ev_l1Has (l : List Int) (n : Int) (hn : l.length ≤ 9223372036854775807) : Ev (fun k => spec_l1Has.f k l n) (decide (n ∈ l)) := ev_l1Has_l l n hn l [] rfl

theorem ev_Index_l (l : List Int) (n : Int) (hn : l.length ≤ 9223372036854775807) : ∀ (suf pre : List Int), l = pre ++ suf → Ev (fun k => slices_Index_int_int.l0 k l n (l.length : Int) (pre.length : Int)) (if idxI suf n = -1 then -1 else (pre.length : Int) + idxI suf n)
  | [], pre, e => by
    subst e
    refine Ev.round (f := fun _ => some (-1)) (fun k => ?_) (Ev.cast (Ev.now _) (by rw [idxI_nil, if_pos rfl]))
    simp only [slices_Index_int_int.l0]
    rw [if_neg (by simp)]
  | x :: suf, pre, e => by
    subst e
    by_cases c : x = n
    · refine Ev.round (f := fun _ => some (pre.length : Int)) (fun k => ?_) (Ev.cast (Ev.now _) (by rw [idxI_cons, if_pos c, if_neg (by omega)]; omega))
      simp only [slices_Index_int_int.l0]
      rw [if_pos (lt_mid _ _ _), if_pos (by omega), if_pos (lt_mid _ _ _), rd_mid, if_pos c.symm]
    · have ih := ev_Index_l (pre ++ x :: suf) n hn suf (pre ++ [x]) (snoc_mid _ _ _)
      have hg := idxI_ge suf n
      refine Ev.round (fun k => ?_) (Ev.cast ih (by rw [idxI_cons, if_neg c, List.length_append, List.length_singleton]; by_cases e : idxI suf n = -1 <;> simp [e]; omega))
      simp only [slices_Index_int_int.l0]
      rw [if_pos (lt_mid _ _ _), if_pos (by omega), if_pos (lt_mid _ _ _), rd_mid, if_neg (Ne.symm c), up_mid _ _ _ hn]
theorem ev_Index (l : List Int) (n : Int) (hn : l.length ≤ 9223372036854775807) : Ev (fun k => slices_Index_int_int.f k l n) (idxI l n) :=
  Ev.cast (ev_Index_l l n hn l [] rfl) (by have := idxI_ge l n; split <;> simp_all)

theorem ev_Contains (l : List Int) (n : Int) (hn : l.length ≤ 9223372036854775807) : Ev (fun k => slices_Contains_int_int.f k l n) (decide (n ∈ l)) := by
  unfold slices_Contains_int_int.f
  exact Ev.bind (ev_Index l n hn) (Ev.cast (Ev.now _) (idxI_mem l n))

/-! rising lists -/
/-- Each number is greater than the one ahead of it (prev: what stands ahead of the list). -/
def upB : Option Int → List Int → Bool
  | _, [] => true
  | none, x :: l => upB (some x) l
  | some p, x :: l => decide (p < x) && upB (some x) l
def riseB (l : List Int) (n : Int) : Bool := upB none l && allIn l 0 (n - 1)
def riseAt (n : Int) : Option Int → List Int → Bool
  | _, [] => true
  | none, x :: l => (decide (0 ≤ x) && decide (x < n)) && riseAt n (some x) l
  | some p, x :: l => (decide (0 ≤ x) && decide (x < n)) && (decide (p < x) && riseAt n (some x) l)
theorem riseAt_eq (n : Int) : ∀ (l : List Int) (p : Option Int), riseAt n p l = (upB p l && allIn l 0 (n - 1))
  | [], p => by cases p <;> rfl
  | x :: l, none => by
    simp only [riseAt, upB, riseAt_eq n l, allIn, List.all_cons]
    rw [show decide (x < n) = decide (x ≤ n - 1) from decide_eq_decide.2 (by omega)]
    generalize (decide (0 ≤ x) && decide (x ≤ n - 1)) = a
    generalize upB (some x) l = b
    cases a <;> cases b <;> rfl
  | x :: l, some p => by
    simp only [riseAt, upB, riseAt_eq n l, allIn, List.all_cons]
    rw [show decide (x < n) = decide (x ≤ n - 1) from decide_eq_decide.2 (by omega)]
    generalize (decide (0 ≤ x) && decide (x ≤ n - 1)) = a
    generalize upB (some x) l = b
    generalize decide (p < x) = c
    cases a <;> cases b <;> cases c <;> rfl
/-- What stands ahead, and the list that lies ahead. -/
def Ahead : Option Int → List Int → Prop
  | none, pre => pre = []
  | some p, pre => ∃ q, pre = q ++ [p]

theorem ev_l8Rising_l (l : List Int) (n : Int) (hn : l.length ≤ 4611686018427387904) : ∀ (suf pre : List Int) (p : Option Int), l = pre ++ suf → Ahead p pre → Ev (fun k => spec_l8Rising.l0 k l n l (l.length : Int) (pre.length : Int)) (riseAt n p suf)
  | [], pre, p, e, ha => by
    refine Ev.round (f := fun _ => some true) (fun k => ?_) (Ev.cast (Ev.now _) (by cases p <;> rfl))
    simp only [spec_l8Rising.l0]
    rw [if_neg (by subst e; simp)]
  | x :: suf, pre, p, e, ha => by
    have h1 : (pre.length : Int) < (l.length : Int) := by rw [e]; exact lt_mid _ _ _
    have h2 : rd l (pre.length : Int) = x := by rw [e]; exact rd_mid _ _ _
    have h3 : wrap64 ((pre.length : Int) + 1) = ((pre ++ [x]).length : Int) := by rw [List.length_append, List.length_singleton]; unfold wrap64; omega
    have ih := ev_l8Rising_l l n hn suf (pre ++ [x]) (some x) (by rw [e]; simp) ⟨pre, rfl⟩
    by_cases c0 : x < 0
    · refine Ev.round (f := fun _ => some false) (fun k => ?_) (Ev.cast (Ev.now _) (by cases p <;> simp [riseAt, show ¬ 0 ≤ x by omega]))
      simp only [spec_l8Rising.l0]
      rw [if_pos h1, if_pos (by omega), if_pos h1, h2, if_pos c0]
    by_cases c1 : x ≥ n
    · refine Ev.round (f := fun _ => some false) (fun k => ?_) (Ev.cast (Ev.now _) (by cases p <;> simp [riseAt, show ¬ x < n by omega]))
      simp only [spec_l8Rising.l0]
      rw [if_pos h1, if_pos (by omega), if_pos h1, h2, if_neg c0, if_pos c1]
    cases p with
    | none =>
      have hp : pre = [] := ha
      subst hp
      refine Ev.round (fun k => ?_) (Ev.cast ih (by simp [riseAt, show 0 ≤ x by omega, show x < n by omega]))
      simp only [spec_l8Rising.l0]
      rw [if_pos h1, if_pos (by omega), if_pos h1, h2, if_neg c0, if_neg c1, if_neg (by simp), h3]
    | some p =>
      obtain ⟨q, hq⟩ := ha
      have h6 : (pre.length : Int) = q.length + 1 := by rw [hq]; simp
      have h4 : wrap64 ((pre.length : Int) - 1) = (q.length : Int) := by unfold wrap64; omega
      have h5 : rd l (q.length : Int) = p := by rw [e, hq, List.append_assoc]; exact rd_mid _ _ _
      by_cases c2 : p ≥ x
      · refine Ev.round (f := fun _ => some false) (fun k => ?_) (Ev.cast (Ev.now _) (by simp [riseAt, show ¬ p < x by omega]))
        simp only [spec_l8Rising.l0]
        rw [if_pos h1, if_pos (by omega), if_pos h1, h2, if_neg c0, if_neg c1, if_pos (by omega), h4, if_pos (by omega), if_pos (by omega), h5, if_pos c2]
      · refine Ev.round (fun k => ?_) (Ev.cast ih (by simp [riseAt, show 0 ≤ x by omega, show x < n by omega, show p < x by omega]))
        simp only [spec_l8Rising.l0]
        rw [if_pos h1, if_pos (by omega), if_pos h1, h2, if_neg c0, if_neg c1, if_pos (by omega), h4, if_pos (by omega), if_pos (by omega), h5, if_neg c2, h3]
theorem ev_l8Rising (l : List Int) (n : Int) (hn : l.length ≤ 4611686018427387904) : Ev (fun k => spec_l8Rising.f k l n) (riseB l n) :=
  Ev.cast (ev_l8Rising_l l n hn l [] none rfl rfl) (riseAt_eq n l none)

theorem ev_isRising_l (l : List Int) (n : Int) (hn : l.length ≤ 4611686018427387904) (h0 : 0 ≤ n) (h9 : n ≤ 4611686018427387904) : ∀ (suf pre : List Int) (p : Option Int), l = pre ++ suf → Ahead p pre → Ev (fun k => impl_isRising.l0 k l n l (l.length : Int) (pre.length : Int)) (upB p suf && allIn l 0 (n - 1))
  | [], pre, p, e, ha => by
    have hw : wrap64 (n - 1) = n - 1 := by unfold wrap64; omega
    refine Ev.round (f := fun _ => some (allIn l 0 (n - 1))) (fun k => ?_) (Ev.cast (Ev.now _) (by cases p <;> simp [upB]))
    simp only [impl_isRising.l0]
    rw [if_neg (by subst e; simp), hw, allWithin_eq]
    rfl
  | x :: suf, pre, p, e, ha => by
    have h1 : (pre.length : Int) < (l.length : Int) := by rw [e]; exact lt_mid _ _ _
    have h2 : rd l (pre.length : Int) = x := by rw [e]; exact rd_mid _ _ _
    have h3 : wrap64 ((pre.length : Int) + 1) = ((pre ++ [x]).length : Int) := by rw [List.length_append, List.length_singleton]; unfold wrap64; omega
    have ih := ev_isRising_l l n hn h0 h9 suf (pre ++ [x]) (some x) (by rw [e]; simp) ⟨pre, rfl⟩
    cases p with
    | none =>
      have hp : pre = [] := ha
      subst hp
      refine Ev.round (fun k => ?_) (Ev.cast ih (by simp [upB]))
      simp only [impl_isRising.l0]
      rw [if_pos h1, if_pos (by omega), if_pos h1, if_neg (by simp), h3]
    | some p =>
      obtain ⟨q, hq⟩ := ha
      have h6 : (pre.length : Int) = q.length + 1 := by rw [hq]; simp
      have h4 : wrap64 ((pre.length : Int) - 1) = (q.length : Int) := by unfold wrap64; omega
      have h5 : rd l (q.length : Int) = p := by rw [e, hq, List.append_assoc]; exact rd_mid _ _ _
      by_cases c2 : p ≥ x
      · refine Ev.round (f := fun _ => some false) (fun k => ?_) (Ev.cast (Ev.now _) (by simp [upB, show ¬ p < x by omega]))
        simp only [impl_isRising.l0]
        rw [if_pos h1, if_pos (by omega), if_pos h1, h2, if_pos (by omega), h4, if_pos (by omega), if_pos (by omega), h5, if_pos c2]
      · refine Ev.round (fun k => ?_) (Ev.cast ih (by simp [upB, show p < x by omega]))
        simp only [impl_isRising.l0]
        rw [if_pos h1, if_pos (by omega), if_pos h1, h2, if_pos (by omega), h4, if_pos (by omega), if_pos (by omega), h5, if_neg c2, h3]
theorem ev_isRising (l : List Int) (n : Int) (hn : l.length ≤ 4611686018427387904) (h0 : 0 ≤ n) (h9 : n ≤ 4611686018427387904) : Ev (fun k => impl_isRising.f k l n) (riseB l n) :=
  ev_isRising_l l n hn h0 h9 l [] none rfl rfl

/-! slices of slices of bools -/
theorem rdL_mid (pre suf : List (List Bool)) (x : List Bool) : rd_L1 (pre ++ x :: suf) (pre.length : Int) = x := getD_mid [] pre suf x
/-- What two texts answer alike. -/
def Same {α : Type} (g h : Nat → Option α) : Prop := ∃ r, Ev g r ∧ Ev h r
theorem Same.of {α : Type} {g h : Nat → Option α} {r : α} (a : Ev g r) (b : Ev h r) : Same g h := ⟨r, a, b⟩
theorem Same.now {α : Type} (r : α) : Same (fun _ => some r) (fun _ => some r) := ⟨r, Ev.now _, Ev.now _⟩
theorem Same.round {α : Type} {g h g' h' : Nat → Option α} (a : ∀ k, g (k + 1) = g' k) (b : ∀ k, h (k + 1) = h' k) (s : Same g' h') : Same g h := by
  obtain ⟨r, p, q⟩ := s
  exact ⟨r, Ev.round a p, Ev.round b q⟩
theorem Same.eqv {α : Type} {g h g' h' : Nat → Option α} (a : ∀ k, g k = g' k) (b : ∀ k, h k = h' k) (s : Same g' h') : Same g h := by
  obtain ⟨r, p, q⟩ := s
  exact ⟨r, Ev.eqv a p, Ev.eqv b q⟩
theorem Same.bind {α β : Type} {g h : Nat → Option α} {f f' : Nat → α → Option β} {a : α} (p : Ev g a) (q : Ev h a) (s : Same (fun n => f n a) (fun n => f' n a)) : Same (fun n => (g n).bind (f n)) (fun n => (h n).bind (f' n)) := by
  obtain ⟨r, p', q'⟩ := s
  exact ⟨r, Ev.bind p p', Ev.bind q q'⟩

theorem ev_toBoolS_l (l : List Bool) (hn : l.length ≤ 281474976710656) : ∀ (suf pre : List Bool), l = pre ++ suf → ∀ (z : List Bool), z.length = suf.length → Ev (fun k => laws_toBoolS.l0 k l (pre ++ z) (pre.length : Int)) l
  | [], pre, e, z, hz => by
    subst e
    have : z = [] := List.length_eq_zero_iff.1 hz
    subst this
    refine Ev.round (f := fun _ => some (pre ++ [])) (fun k => ?_) (Ev.now _)
    simp only [laws_toBoolS.l0]
    rw [if_neg (by simp)]
  | x :: suf, pre, e, [], hz => by simp at hz
  | x :: suf, pre, e, y :: z, hz => by
    subst e
    have ih := ev_toBoolS_l (pre ++ x :: suf) hn suf (pre ++ [x]) (snoc_mid _ _ _) z (by simpa using hz)
    refine Ev.round (fun k => ?_) ih
    simp only [laws_toBoolS.l0]
    rw [if_pos (lt_mid _ _ _), if_pos (by omega), if_pos (lt_mid _ _ _), rdOf_mid, up_mid pre suf x (by omega)]
    congr 1
    rw [Int.toNat_natCast, List.set_append_right _ _ (Nat.le_refl _), Nat.sub_self, List.set_cons_zero]
    simp
theorem ev_toBoolS (l : List Bool) (hn : l.length ≤ 281474976710656) : Ev (fun k => laws_toBoolS.f k l) l := by
  have h := ev_toBoolS_l l hn l [] rfl (List.replicate l.length false) (by simp)
  refine Ev.eqv (fun k => ?_) h
  unfold laws_toBoolS.f
  rw [if_pos (by omega), Int.toNat_natCast, if_pos hn]
  rfl

theorem ev_eqBoolS_l (a b : List Bool) (hab : a.length = b.length) (hn : a.length ≤ 9223372036854775807) : ∀ (sa pa sb pb : List Bool), a = pa ++ sa → b = pb ++ sb → pa.length = pb.length → Ev (fun k => laws_eqBoolS.l0 k a b (pa.length : Int)) (decide (sa = sb))
  | [], pa, sb, pb, ea, eb, hp => by
    subst ea
    refine Ev.round (f := fun _ => some true) (fun k => ?_) (Ev.cast (Ev.now _) ?_)
    · simp only [laws_eqBoolS.l0]
      rw [if_neg (by simp)]
    · have : sb = [] := by
        rw [eb] at hab
        simp at hab
        exact List.length_eq_zero_iff.1 (by omega)
      rw [this]; rfl
  | x :: sa, pa, [], pb, ea, eb, hp => by
    rw [ea, eb] at hab
    simp at hab
    omega
  | x :: sa, pa, y :: sb, pb, ea, eb, hp => by
    subst ea
    subst eb
    have h1 : ((pa.length : Nat) : Int) = (pb.length : Int) := by omega
    by_cases e : x = y
    · subst e
      have ih := ev_eqBoolS_l (pa ++ x :: sa) (pb ++ x :: sb) hab hn sa (pa ++ [x]) sb (pb ++ [x]) (snoc_mid _ _ _) (snoc_mid _ _ _) (by simp [hp])
      refine Ev.round (fun k => ?_) (Ev.cast ih (by simp))
      simp only [laws_eqBoolS.l0]
      rw [if_pos (lt_mid _ _ _), if_pos (by omega), if_pos (by rw [h1]; exact lt_mid _ _ _), rdOf_mid, h1, rdOf_mid, if_neg (by simp), ← h1, up_mid _ _ _ hn]
    · refine Ev.round (f := fun _ => some false) (fun k => ?_) (Ev.cast (Ev.now _) (by simp [e]))
      simp only [laws_eqBoolS.l0]
      rw [if_pos (lt_mid _ _ _), if_pos (by omega), if_pos (by rw [h1]; exact lt_mid _ _ _), rdOf_mid, h1, rdOf_mid, if_pos (by simpa using e)]
theorem ev_eqBoolS (a b : List Bool) (hn : a.length ≤ 9223372036854775807) : Ev (fun k => laws_eqBoolS.f k a b) (decide (a = b)) := by
  unfold laws_eqBoolS.f
  by_cases h : a.length = b.length
  · exact Ev.ite_pos (by omega) (ev_eqBoolS_l a b h hn a [] b [] rfl rfl rfl)
  · refine Ev.ite_neg (by omega) (Ev.cast (Ev.now _) ?_)
    rw [decide_eq_false]
    rintro rfl
    exact h rfl

theorem szBoolS_eq (l : List Bool) (a : Int) : laws_szBoolS.f l a = some (if wrap64 (a - (l.length : Int)) < 0 then -1 else wrap64 (a - (l.length : Int))) := by
  unfold laws_szBoolS.f
  split <;> rfl

def szI (x : List Bool) (a : Int) : Int := if wrap64 (a - (x.length : Int)) < 0 then -1 else wrap64 (a - (x.length : Int))
def szGo (a : Int) : List (List Bool) → Int
  | [] => a
  | x :: l => if szI x a < 0 then -1 else szGo (szI x a) l
def szRows (l : List (List Bool)) (a : Int) : Int := if wrap64 (a - (l.length : Int)) < 0 then -1 else szGo (wrap64 (a - (l.length : Int))) l
theorem ev_szBoolSS_l (l : List (List Bool)) (hn : l.length ≤ 9223372036854775807) : ∀ (suf pre : List (List Bool)) (a : Int), l = pre ++ suf → Ev (fun k => laws_szBoolSS.l0 k l a (pre.length : Int)) (szGo a suf)
  | [], pre, a, e => by
    subst e
    refine Ev.round (f := fun _ => some a) (fun k => ?_) (Ev.now _)
    simp only [laws_szBoolSS.l0]
    rw [if_neg (by simp)]
  | x :: suf, pre, a, e => by
    subst e
    have hz : laws_szBoolS.f x a = some (szI x a) := szBoolS_eq x a
    by_cases c : szI x a < 0
    · refine Ev.round (f := fun _ => some (-1)) (fun k => ?_) (Ev.cast (Ev.now _) (by rw [szGo, if_pos c]))
      simp only [laws_szBoolSS.l0]
      rw [if_pos (lt_mid _ _ _), if_pos (by omega), rdL_mid, hz, Option.bind_some, if_pos c]
    · have ih := ev_szBoolSS_l (pre ++ x :: suf) hn suf (pre ++ [x]) (szI x a) (snoc_mid _ _ _)
      refine Ev.round (fun k => ?_) (Ev.cast ih (by rw [szGo, if_neg c]))
      simp only [laws_szBoolSS.l0]
      rw [if_pos (lt_mid _ _ _), if_pos (by omega), rdL_mid, hz, Option.bind_some, if_neg c, up_mid _ _ _ hn]
theorem ev_szBoolSS (l : List (List Bool)) (a : Int) (hn : l.length ≤ 9223372036854775807) : Ev (fun k => laws_szBoolSS.f k l a) (szRows l a) := by
  unfold laws_szBoolSS.f szRows
  by_cases c : wrap64 (a - (l.length : Int)) < 0
  · rw [if_pos c]
    exact Ev.ite_pos c (Ev.now _)
  · rw [if_neg c]
    exact Ev.ite_neg c (ev_szBoolSS_l l hn l [] _ rfl)
theorem szI_ok {x : List Bool} {a : Int} (h0 : 0 ≤ a) (ha : a ≤ 4611686018427387904) (hx : x.length ≤ 9223372036854775807) (h : ¬ szI x a < 0) : (x.length : Int) ≤ a ∧ szI x a = a - x.length := by
  have hw : wrap64 (a - (x.length : Int)) = a - x.length := by unfold wrap64; omega
  unfold szI at h ⊢
  rw [hw] at h ⊢
  by_cases c : a - (x.length : Int) < 0
  · rw [if_pos c] at h; omega
  · rw [if_neg c]; omega
theorem szGo_ok : ∀ (l : List (List Bool)) (a : Int), 0 ≤ a → a ≤ 4611686018427387904 → (∀ x ∈ l, x.length ≤ 9223372036854775807) → ¬ szGo a l < 0 → (∀ x ∈ l, (x.length : Int) ≤ a) ∧ szGo a l ≤ a
  | [], a, h0, ha, hx, h => ⟨by simp, Int.le_refl _⟩
  | x :: l, a, h0, ha, hx, h => by
    rw [szGo] at h ⊢
    by_cases c : szI x a < 0
    · rw [if_pos c] at h; omega
    · rw [if_neg c] at h ⊢
      obtain ⟨h1, h2⟩ := szI_ok h0 ha (hx x (by simp)) c
      obtain ⟨h3, h4⟩ := szGo_ok l (szI x a) (by omega) (by omega) (fun y hy => hx y (by simp [hy])) h
      refine ⟨fun y hy => ?_, by omega⟩
      rcases List.mem_cons.1 hy with rfl | hy
      · exact h1
      · have := h3 y hy; omega
theorem szRows_ok {l : List (List Bool)} {a : Int} (h0 : 0 ≤ a) (ha : a ≤ 4611686018427387904) (hl : l.length ≤ 9223372036854775807) (hx : ∀ x ∈ l, x.length ≤ 9223372036854775807) (h : ¬ szRows l a < 0) : (l.length : Int) ≤ a ∧ (∀ x ∈ l, (x.length : Int) ≤ a) ∧ szRows l a ≤ a := by
  have hw : wrap64 (a - (l.length : Int)) = a - l.length := by unfold wrap64; omega
  unfold szRows at h ⊢
  rw [hw] at h ⊢
  by_cases c : a - (l.length : Int) < 0
  · rw [if_pos c] at h; omega
  · rw [if_neg c] at h ⊢
    obtain ⟨h3, h4⟩ := szGo_ok l _ (by omega) (by omega) hx h
    exact ⟨by omega, fun x hx => by have := h3 x hx; omega, by omega⟩

theorem ev_toBoolSS_l (l : List (List Bool)) (hn : l.length ≤ 11728124029610) (hx : ∀ x ∈ l, x.length ≤ 281474976710656) : ∀ (suf pre : List (List Bool)), l = pre ++ suf → ∀ (z : List (List Bool)), z.length = suf.length → Ev (fun k => laws_toBoolSS.l0 k l (pre ++ z) (pre.length : Int)) l
  | [], pre, e, z, hz => by
    subst e
    have : z = [] := List.length_eq_zero_iff.1 hz
    subst this
    refine Ev.round (f := fun _ => some (pre ++ [])) (fun k => ?_) (Ev.now _)
    simp only [laws_toBoolSS.l0]
    rw [if_neg (by simp)]
  | x :: suf, pre, e, [], hz => by simp at hz
  | x :: suf, pre, e, y :: z, hz => by
    subst e
    have ih := ev_toBoolSS_l (pre ++ x :: suf) hn hx suf (pre ++ [x]) (snoc_mid _ _ _) z (by simpa using hz)
    have ht := ev_toBoolS x (hx x (by simp))
    refine Ev.round (fun k => ?_) (Ev.bind ht (f := fun k t => laws_toBoolSS.l0 k (pre ++ x :: suf) (pre ++ [t] ++ z) (((pre ++ [x]).length : Nat) : Int)) ih)
    simp only [laws_toBoolSS.l0]
    rw [if_pos (lt_mid _ _ _), if_pos (by omega), rdL_mid]
    congr 1
    funext t
    rw [if_pos (lt_mid _ _ _), up_mid pre suf x (by omega), Int.toNat_natCast, List.set_append_right _ _ (Nat.le_refl _), Nat.sub_self, List.set_cons_zero]
    simp
theorem ev_toBoolSS (l : List (List Bool)) (hn : l.length ≤ 11728124029610) (hx : ∀ x ∈ l, x.length ≤ 281474976710656) : Ev (fun k => laws_toBoolSS.f k l) l := by
  have h := ev_toBoolSS_l l hn hx l [] rfl (List.replicate l.length []) (by simp)
  refine Ev.eqv (fun k => ?_) h
  unfold laws_toBoolSS.f
  rw [if_pos (by omega), Int.toNat_natCast, if_pos hn]
  rfl

theorem ev_eqBoolSS_l (a b : List (List Bool)) (hab : a.length = b.length) (hn : a.length ≤ 9223372036854775807) (hx : ∀ x ∈ a, x.length ≤ 9223372036854775807) : ∀ (sa pa sb pb : List (List Bool)), a = pa ++ sa → b = pb ++ sb → pa.length = pb.length → Ev (fun k => laws_eqBoolSS.l0 k a b (pa.length : Int)) (decide (sa = sb))
  | [], pa, sb, pb, ea, eb, hp => by
    subst ea
    refine Ev.round (f := fun _ => some true) (fun k => ?_) (Ev.cast (Ev.now _) ?_)
    · simp only [laws_eqBoolSS.l0]
      rw [if_neg (by simp)]
    · have : sb = [] := by
        rw [eb] at hab
        simp at hab
        exact List.length_eq_zero_iff.1 (by omega)
      rw [this]; rfl
  | x :: sa, pa, [], pb, ea, eb, hp => by
    rw [ea, eb] at hab
    simp at hab
    omega
  | x :: sa, pa, y :: sb, pb, ea, eb, hp => by
    subst ea
    subst eb
    have h1 : ((pa.length : Nat) : Int) = (pb.length : Int) := by omega
    have h2 : (pa.length : Int) < ((pb ++ y :: sb).length : Int) := by rw [h1]; exact lt_mid _ _ _
    have h3 : rd_L1 (pb ++ y :: sb) (pa.length : Int) = y := by rw [h1]; exact rdL_mid _ _ _
    have he := ev_eqBoolS x y (hx x (by simp))
    have ih := fun (e : x = y) => ev_eqBoolSS_l (pa ++ x :: sa) (pb ++ y :: sb) hab hn hx sa (pa ++ [x]) sb (pb ++ [y]) (snoc_mid _ _ _) (snoc_mid _ _ _) (by simp [hp])
    refine Ev.round (fun k => ?_) (Ev.bind he (f := fun k t => if t = true then laws_eqBoolSS.l0 k (pa ++ x :: sa) (pb ++ y :: sb) (((pa ++ [x]).length : Nat) : Int) else some false) ?_)
    · simp only [laws_eqBoolSS.l0]
      rw [if_pos (lt_mid _ _ _), if_pos (by omega), if_pos h2, rdL_mid, h3, up_mid _ _ _ hn]
    · by_cases e : x = y
      · exact Ev.ite_pos (by simp [e]) (Ev.cast (ih e) (by simp [e]))
      · exact Ev.ite_neg (by simp [e]) (Ev.cast (Ev.now _) (by simp [e]))
theorem ev_eqBoolSS (a b : List (List Bool)) (hn : a.length ≤ 9223372036854775807) (hx : ∀ x ∈ a, x.length ≤ 9223372036854775807) : Ev (fun k => laws_eqBoolSS.f k a b) (decide (a = b)) := by
  unfold laws_eqBoolSS.f
  by_cases h : a.length = b.length
  · exact Ev.ite_pos (by omega) (ev_eqBoolSS_l a b h hn hx a [] b [] rfl rfl rfl)
  · refine Ev.ite_neg (by omega) (Ev.cast (Ev.now _) ?_)
    rw [decide_eq_false]
    rintro rfl
    exact h rfl

/-! covers -/

def fitsB (l : List (List Bool)) : Bool := decide (l.length ≤ 8) && l.all (impl_GoodFits.p (l.headD []).length)
theorem fitsB_iff {l : List (List Bool)} (h : fitsB l = true) : l.length ≤ 8 ∧ ∀ x ∈ l, x.length ≤ 8 ∧ x.length = (l.headD []).length := by
  unfold fitsB at h
  rw [Bool.and_eq_true, List.all_eq_true, decide_eq_true_eq] at h
  refine ⟨h.1, fun x hx => ?_⟩
  have := h.2 x hx
  unfold impl_GoodFits.p at this
  rw [Bool.and_eq_true, decide_eq_true_eq, decide_eq_true_eq] at this
  exact this
theorem ev_GoodFits_l (l : List (List Bool)) (hn : l.length ≤ 9223372036854775807) : ∀ (suf pre : List (List Bool)), l = pre ++ suf → Ev (fun k => spec_GoodFits.l0 k l l (l.length : Int) (pre.length : Int)) (suf.all (impl_GoodFits.p (l.headD []).length) && decide (l.length ≤ 8))
  | [], pre, e => by
    refine Ev.round (f := fun _ => some (decide ((l.length : Int) ≤ 8))) (fun k => ?_) (Ev.cast (Ev.now _) (by rw [List.all_nil, Bool.true_and, decide_eq_decide]; omega))
    simp only [spec_GoodFits.l0]
    rw [if_neg (by rw [e]; simp)]
  | x :: suf, pre, e => by
    have ih := ev_GoodFits_l l hn suf (pre ++ [x]) (by rw [e]; simp)
    have h1 : (pre.length : Int) < (l.length : Int) := by rw [e]; exact lt_mid _ _ _
    have h2 : rd_L1 l (pre.length : Int) = x := by rw [e]; exact rdL_mid _ _ _
    have h3 : wrap64 ((pre.length : Int) + 1) = ((pre ++ [x]).length : Int) := by
      have : pre.length + 1 ≤ l.length := by omega
      rw [List.length_append, List.length_singleton]; unfold wrap64; omega
    have h4 : rd_L1 l 0 = l.headD [] := by cases l <;> rfl
    by_cases c : x.length = (l.headD []).length
    · by_cases d : x.length ≤ 8
      · refine Ev.round (fun k => ?_) (Ev.cast ih (by rw [List.all_cons]; unfold impl_GoodFits.p; rw [decide_eq_true c, decide_eq_true d]; rfl))
        simp only [spec_GoodFits.l0]
        rw [if_pos h1, if_pos (by omega), if_pos h1, if_pos (by omega), h2, h4, if_pos (by omega), if_neg (by omega), h3]
      · refine Ev.round (f := fun _ => some false) (fun k => ?_) (Ev.cast (Ev.now _) (by rw [List.all_cons]; unfold impl_GoodFits.p; rw [decide_eq_false d]; rfl))
        simp only [spec_GoodFits.l0]
        rw [if_pos h1, if_pos (by omega), if_pos h1, if_pos (by omega), h2, h4, if_pos (by omega), if_pos (by omega)]
    · refine Ev.round (f := fun _ => some false) (fun k => ?_) (Ev.cast (Ev.now _) (by rw [List.all_cons]; unfold impl_GoodFits.p; rw [decide_eq_false c, Bool.and_false]; rfl))
      simp only [spec_GoodFits.l0]
      rw [if_pos h1, if_pos (by omega), if_pos h1, if_pos (by omega), h2, h4, if_neg (by omega)]
theorem ev_GoodFits (l : List (List Bool)) (hn : l.length ≤ 9223372036854775807) : Ev (fun k => spec_GoodFits.f k l) (fitsB l) := Ev.cast (ev_GoodFits_l l hn l [] rfl) (Bool.and_comm _ _)
theorem goodFits_eq (l : List (List Bool)) : impl_GoodFits.f l = some (fitsB l) := rfl

def binsZ (l : List (List Bool)) : Int := ((l.headD []).length : Int)
theorem l8Bins_eq (l : List (List Bool)) : spec_l8Bins.f l = some (binsZ l) := by
  unfold spec_l8Bins.f binsZ
  cases l with
  | nil => rfl
  | cons x l => rw [if_neg (by rw [List.length_cons]; omega), if_pos (by rw [List.length_cons]; omega)]; rfl
theorem binsOf_eq (l : List (List Bool)) : impl_binsOf.f l = some (binsZ l) := l8Bins_eq l

theorem cover_in (F : List (List Bool)) (a b : List Int) (L i : Int) (ha : a.length ≤ 9223372036854775807) (hb : b.length ≤ 9223372036854775807) (x : List Bool) (hx : x.length ≤ 8)
    (H : Same (fun k => spec_IsCover.l0 k a b F L (wrap64 (i + 1))) (fun k => impl_IsCover.l0 k a b F L (wrap64 (i + 1)))) : ∀ (t p : List Bool), x = p ++ t →
    Same (fun k => spec_IsCover.l1 k a b i F L i x (x.length : Int) (p.length : Int)) (fun k => impl_IsCover.l1 k a b i F L i x (x.length : Int) (p.length : Int))
  | [], p, e => by
    refine Same.round (fun k => ?_) (fun k => ?_) H
    · simp only [spec_IsCover.l1]
      rw [if_neg (by rw [e]; simp)]
    · simp only [impl_IsCover.l1]
      rw [if_neg (by rw [e]; simp)]
  | y :: t, p, e => by
    have h1 : (p.length : Int) < (x.length : Int) := by rw [e]; exact lt_mid _ _ _
    have h5 : rdOf false x (p.length : Int) = y := by rw [e]; exact rdOf_mid _ _ _ _
    have h3 : wrap64 ((p.length : Int) + 1) = ((p ++ [y]).length : Int) := by rw [List.length_append, List.length_singleton]; unfold wrap64; omega
    have ih := cover_in F a b L i ha hb x hx H t (p ++ [y]) (by rw [e]; simp)
    by_cases c : y = true
    · refine Same.round (g' := fun k => (spec_l1Has.f k a i).bind fun t127 => if t127 = true then spec_IsCover.l1 k a b i F L i x (x.length : Int) ((p ++ [y]).length : Int) else (spec_l1Has.f k b (p.length : Int)).bind fun t128 => if t128 = true then spec_IsCover.l1 k a b i F L i x (x.length : Int) ((p ++ [y]).length : Int) else some (false, true))
        (h' := fun k => (slices_Contains_int_int.f k a i).bind fun t127 => if t127 = true then impl_IsCover.l1 k a b i F L i x (x.length : Int) ((p ++ [y]).length : Int) else (slices_Contains_int_int.f k b (p.length : Int)).bind fun t128 => if t128 = true then impl_IsCover.l1 k a b i F L i x (x.length : Int) ((p ++ [y]).length : Int) else some (false, true)) (fun k => ?_) (fun k => ?_) (Same.bind (ev_l1Has a i ha) (ev_Contains a i ha) ?_)
      · simp only [spec_IsCover.l1]
        rw [if_pos h1, if_pos (by omega), if_pos h1, h5, if_pos c, h3]
      · simp only [impl_IsCover.l1]
        rw [if_pos h1, if_pos (by omega), if_pos h1, h5, if_pos c, h3]
      · by_cases g : decide (i ∈ a) = true
        · exact Same.eqv (fun k => if_pos g) (fun k => if_pos g) ih
        · refine Same.eqv (fun k => if_neg g) (fun k => if_neg g) (Same.bind (ev_l1Has b (p.length : Int) hb) (ev_Contains b (p.length : Int) hb) ?_)
          by_cases g2 : decide ((p.length : Int) ∈ b) = true
          · exact Same.eqv (fun k => if_pos g2) (fun k => if_pos g2) ih
          · exact Same.eqv (fun k => if_neg g2) (fun k => if_neg g2) (Same.now _)
    · refine Same.round (fun k => ?_) (fun k => ?_) ih
      · simp only [spec_IsCover.l1]
        rw [if_pos h1, if_pos (by omega), if_pos h1, h5, if_neg c, h3]
      · simp only [impl_IsCover.l1]
        rw [if_pos h1, if_pos (by omega), if_pos h1, h5, if_neg c, h3]
theorem cover_out (F : List (List Bool)) (a b : List Int) (ha : a.length ≤ 9223372036854775807) (hb : b.length ≤ 9223372036854775807) (hF : F.length ≤ 8) (hx : ∀ x ∈ F, x.length ≤ 8) : ∀ (suf pre : List (List Bool)), F = pre ++ suf →
    Same (fun k => spec_IsCover.l0 k a b F (F.length : Int) (pre.length : Int)) (fun k => impl_IsCover.l0 k a b F (F.length : Int) (pre.length : Int))
  | [], pre, e => by
    refine Same.round (g' := fun _ => some (true, true)) (h' := fun _ => some (true, true)) (fun k => ?_) (fun k => ?_) (Same.now _)
    · simp only [spec_IsCover.l0]
      rw [if_neg (by rw [e]; simp)]
    · simp only [impl_IsCover.l0]
      rw [if_neg (by rw [e]; simp)]
  | x :: suf, pre, e => by
    have ih := cover_out F a b ha hb hF hx suf (pre ++ [x]) (by rw [e]; simp)
    have h1 : (pre.length : Int) < (F.length : Int) := by rw [e]; exact lt_mid _ _ _
    have h2 : rd_L1 F (pre.length : Int) = x := by rw [e]; exact rdL_mid _ _ _
    have h3 : wrap64 ((pre.length : Int) + 1) = ((pre ++ [x]).length : Int) := by rw [List.length_append, List.length_singleton]; unfold wrap64; omega
    have inn := cover_in F a b (F.length : Int) (pre.length : Int) ha hb x (hx x (by rw [e]; simp)) (by rw [h3]; exact ih) x [] rfl
    refine Same.round (fun k => ?_) (fun k => ?_) inn
    · simp only [spec_IsCover.l0]
      rw [if_pos h1, if_pos (by omega), if_pos h1, h2]
      rfl
    · simp only [impl_IsCover.l0]
      rw [if_pos h1, if_pos (by omega), if_pos h1, h2]
      rfl
theorem same_IsCover (F : List (List Bool)) (a b : List Int) (hF : F.length ≤ 9223372036854775807) (ha : a.length ≤ 4611686018427387904) (hb : b.length ≤ 4611686018427387904) : Same (fun k => spec_IsCover.f k F a b) (fun k => impl_IsCover.f k F a b) := by
  unfold spec_IsCover.f impl_IsCover.f
  have jt : ∀ v, v = true → Ev (fun k => spec_IsCover.j0 k F a b v) (false, false) := fun v hv => by
    subst hv
    refine Ev.round (f := fun _ => some (false, false)) (fun k => ?_) (Ev.now _)
    simp [spec_IsCover.j0]
  have jt' : ∀ v, v = true → Ev (fun k => impl_IsCover.j0 k F a b v) (false, false) := fun v hv => by
    subst hv
    refine Ev.round (f := fun _ => some (false, false)) (fun k => ?_) (Ev.now _)
    simp [impl_IsCover.j0]
  refine Same.bind (ev_GoodFits F hF) (Ev.det (fun _ => goodFits_eq F)) ?_
  by_cases c : fitsB F = true
  · refine Same.eqv (fun k => if_pos c) (fun k => if_pos c) ?_
    obtain ⟨h1, h2⟩ := fitsB_iff c
    have hbz : 0 ≤ binsZ F ∧ binsZ F ≤ 8 := by
      unfold binsZ
      cases F with
      | nil => simp
      | cons x l => have := (h2 x (by simp)).1; simp; omega
    refine Same.bind (ev_l8Rising a (F.length : Int) ha) (ev_isRising a (F.length : Int) ha (by omega) (by omega)) ?_
    by_cases d : riseB a (F.length : Int) = true
    · refine Same.eqv (fun k => if_pos d) (fun k => if_pos d) (Same.bind (Ev.det (fun _ => l8Bins_eq F)) (Ev.det (fun _ => binsOf_eq F)) ?_)
      refine Same.bind (ev_l8Rising b (binsZ F) hb) (ev_isRising b (binsZ F) hb (by omega) (by omega)) ?_
      by_cases g : riseB b (binsZ F) = true
      · refine Same.round (fun k => ?_) (fun k => ?_) (cover_out F a b (by omega) (by omega) h1 (fun x hx => (h2 x hx).1) F [] rfl)
        · simp only [spec_IsCover.j0]
          rw [if_neg (by simp [g])]
          rfl
        · simp only [impl_IsCover.j0]
          rw [if_neg (by simp [g])]
          rfl
      · exact Same.of (jt _ (by simp [g])) (jt' _ (by simp [g]))
    · exact Same.eqv (fun k => if_neg d) (fun k => if_neg d) (Same.of (jt _ rfl) (jt' _ rfl))
  · exact Same.eqv (fun k => if_neg c) (fun k => if_neg c) (Same.of (jt _ rfl) (jt' _ rfl))

end Go.Proofs.Ytdlblaihleojmaa.Pure
