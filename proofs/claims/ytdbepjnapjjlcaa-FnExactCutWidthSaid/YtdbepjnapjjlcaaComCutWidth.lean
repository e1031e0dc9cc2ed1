import Derived.Test.YtdbepjnapjjlcaaGLCutWidth0
import Derived.Test.YtdbepjnapjjlcaaGLCutWidth1
import Derived.Test.YtdbepjnapjjlcaaGLCutWidth2
import Derived.Test.YtdbepjnapjjlcaaGLCutWidth3
import Derived.Test.YtdbepjnapjjlcaaGLCutWidth4
namespace Go.Proofs.Ytdbepjnapjjlcaa.Pure
open Go.RowKit Go.Proofs.Ytdbepjnapjjlcaa.GLCutWidth Go.Proofs.YtdbepjnapjjlcaaW.PrintWords Go.Proofs.YtdbepjnapjjlcaaW.PrintLast Go.Proofs.YtdbepjnapjjlcaaW.PrintMore Go.Proofs.YtdbepjnapjjlcaaW.PrintOwn
set_option linter.unusedVariables false
set_option linter.unusedSimpArgs false
/-! rounds: what a loop over a list answers -/
theorem Ev.det {α : Type} {g : Nat → Option α} {r : α} (h : ∀ k, g k = some r) : Ev g r := ⟨0, fun k _ => h k⟩
theorem Ev.bind' {α β : Type} {g : Nat → Option α} {f : Nat → α → Option β} {a : α} {r : β} (h : Ev g a) (k : Ev (fun n => f n a) r) : Ev (fun n => (g n).bind (f n)) r := Ev.bind h k
theorem Ev.bindc {α β : Type} {g : Option α} {f : Nat → α → Option β} {a : α} {r : β} (h : g = some a) (k : Ev (fun n => f n a) r) : Ev (fun n => g.bind (f n)) r := by
  subst h
  exact k
/-- One round. -/
theorem Ev.round {α : Type} {g f : Nat → Option α} {r : α} (h : ∀ k, g (k + 1) = f k) (k : Ev f r) : Ev g r := Ev.step h k
theorem Ev.eqv {α : Type} {g f : Nat → Option α} {r : α} (h : ∀ k, g k = f k) (k : Ev f r) : Ev g r := Ev.congr h k
theorem Ev.cast {α : Type} {g : Nat → Option α} {r r' : α} (h : Ev g r) (e : r = r') : Ev g r' := e ▸ h
theorem Ev.ite_pos {α : Type} {c : Prop} [Decidable c] {g f : Nat → Option α} {r : α} (hc : c) (k : Ev g r) : Ev (fun n => if c then g n else f n) r := by
  refine Ev.eqv (fun n => ?_) k
  rw [if_pos hc]
theorem Ev.ite_neg {α : Type} {c : Prop} [Decidable c] {g f : Nat → Option α} {r : α} (hc : ¬ c) (k : Ev f r) : Ev (fun n => if c then g n else f n) r := by
  refine Ev.eqv (fun n => ?_) k
  rw [if_neg hc]
theorem getD_mid {α : Type} (d : α) (pre suf : List α) (x : α) : (pre ++ x :: suf).getD (pre.length : Int).toNat d = x := by
  rw [Int.toNat_natCast, List.getD_eq_getElem?_getD, List.getElem?_append_right (Nat.le_refl _), Nat.sub_self]
  rfl
theorem rd_mid (pre suf : List Int) (x : Int) : rd (pre ++ x :: suf) (pre.length : Int) = x := getD_mid 0 pre suf x
theorem rdOf_mid {α : Type} (d : α) (pre suf : List α) (x : α) : rdOf d (pre ++ x :: suf) (pre.length : Int) = x := getD_mid d pre suf x
theorem lt_mid {α : Type} (pre suf : List α) (x : α) : (pre.length : Int) < ((pre ++ x :: suf).length : Int) := by
  rw [List.length_append, List.length_cons]; omega
theorem up_mid {α : Type} (pre suf : List α) (x : α) (h : (pre ++ x :: suf).length ≤ 9223372036854775807) : wrap64 ((pre.length : Int) + 1) = ((pre ++ [x]).length : Int) := by
  rw [List.length_append, List.length_cons] at h
  rw [List.length_append, List.length_singleton]
  unfold wrap64
  omega
theorem snoc_mid {α : Type} (pre suf : List α) (x : α) : pre ++ x :: suf = (pre ++ [x]) ++ suf := by simp
theorem wfb {x : Int} (h : (Lit.int .i64 x).wf = true) : -9223372036854775808 ≤ x ∧ x ≤ 9223372036854775807 := by
  simp [Lit.wf, IntKind.min, IntKind.max, IntKind.bits, IntKind.signed] at h
  omega
theorem all_wfb {l : List Int} (h : ∀ x ∈ l, (Lit.int .i64 x).wf = true) : ∀ x ∈ l, -9223372036854775808 ≤ x ∧ x ≤ 9223372036854775807 := fun x hx => wfb (h x hx)
theorem wrap_id {x : Int} (h0 : -9223372036854775808 ≤ x) (h1 : x ≤ 9223372036854775807) : wrap64 x = x := by unfold wrap64; omega

/-! slices of ints -/
/-- All numbers lie between two. -/
def allIn (l : List Int) (lo hi : Int) : Bool := l.all fun n => decide (lo ≤ n) && decide (n ≤ hi)
theorem allIn_iff {l : List Int} {lo hi : Int} : allIn l lo hi = true ↔ ∀ x ∈ l, lo ≤ x ∧ x ≤ hi := by
  unfold allIn
  rw [List.all_eq_true]
  simp
/-- Where a number first stands, -1 if nowhere. -/
def idxI (l : List Int) (n : Int) : Int := match l.findIdx? (fun x => x == n) with
  | some i => (i : Int)
  | none => -1
theorem idxI_nil (n : Int) : idxI [] n = -1 := rfl
theorem idxI_cons (x : Int) (l : List Int) (n : Int) : idxI (x :: l) n = if x = n then 0 else if idxI l n = -1 then -1 else idxI l n + 1 := by
  unfold idxI
  rw [List.findIdx?_cons]
  by_cases c : x = n
  · simp [c]
  · simp only [beq_iff_eq, c, if_false]
    cases h : l.findIdx? fun x => x == n with
    | none => simp
    | some i =>
      have : ¬ ((i : Int) = -1) := by omega
      simp [this]
theorem idxI_ge (l : List Int) (n : Int) : -1 ≤ idxI l n := by
  unfold idxI
  split <;> omega
theorem idxI_mem (l : List Int) (n : Int) : decide (idxI l n ≥ 0) = decide (n ∈ l) := by
  induction l with
  | nil => rfl
  | cons x l ih =>
    rw [idxI_cons]
    have hg := idxI_ge l n
    by_cases c : x = n
    · simp [c]
    · rw [if_neg c]
      rw [decide_eq_decide] at ih ⊢
      rw [List.mem_cons]
      split
      · have : ¬ n ∈ l := fun h => by have := ih.2 h; omega
        simp [Ne.symm c, this]
      · have : n ∈ l := ih.1 (by omega)
        simp [this]
        omega
/-- The sum, as Go's ints tell it. -/
def sumFrom (s : Int) : List Int → Int
  | [] => s
  | x :: l => sumFrom (wrap64 (s + x)) l

theorem ev_toIntS_l (l : List Int) (hn : l.length ≤ 35184372088832) : ∀ (suf pre : List Int), l = pre ++ suf → ∀ (z : List Int), z.length = suf.length → Ev (fun k => laws_toIntS.l0 k l (pre ++ z) (pre.length : Int)) l
  | [], pre, e, z, hz => by
    subst e
    have : z = [] := List.length_eq_zero_iff.1 hz
    subst this
    refine Ev.round (f := fun _ => some (pre ++ [])) (fun k => ?_) (Ev.now _)
    simp only [laws_toIntS.l0]
    rw [if_neg (by simp)]
  | x :: suf, pre, e, [], hz => by simp at hz
  | x :: suf, pre, e, y :: z, hz => by
    subst e
    have ih := ev_toIntS_l (pre ++ x :: suf) hn suf (pre ++ [x]) (snoc_mid _ _ _) z (by simpa using hz)
    refine Ev.round (fun k => ?_) ih
    simp only [laws_toIntS.l0]
    rw [if_pos (lt_mid _ _ _), if_pos (by omega), if_pos (lt_mid _ _ _), rd_mid, up_mid pre suf x (by omega)]
    congr 1
    rw [Int.toNat_natCast, List.set_append_right _ _ (Nat.le_refl _), Nat.sub_self, List.set_cons_zero]
    simp
theorem ev_toIntS (l : List Int) (hn : l.length ≤ 35184372088832) : Ev (fun k => laws_toIntS.f k l) l := by
  have h := ev_toIntS_l l hn l [] rfl (List.replicate l.length 0) (by simp)
  refine Ev.eqv (fun k => ?_) h
  unfold laws_toIntS.f
  rw [if_pos (by omega), Int.toNat_natCast, if_pos hn]
  rfl

theorem ev_eqIntS_l (a b : List Int) (hab : a.length = b.length) (hn : a.length ≤ 9223372036854775807) : ∀ (sa pa sb pb : List Int), a = pa ++ sa → b = pb ++ sb → pa.length = pb.length → Ev (fun k => laws_eqIntS.l0 k a b (pa.length : Int)) (decide (sa = sb))
  | [], pa, sb, pb, ea, eb, hp => by
    subst ea
    refine Ev.round (f := fun _ => some true) (fun k => ?_) (Ev.cast (Ev.now _) ?_)
    · simp only [laws_eqIntS.l0]
      rw [if_neg (by simp)]
    · have : sb = [] := by
        rw [eb] at hab
        simp at hab
        exact List.length_eq_zero_iff.1 (by omega)
      rw [this]; rfl
  | x :: sa, pa, [], pb, ea, eb, hp => by
    rw [ea, eb] at hab
    simp at hab
    omega
  | x :: sa, pa, y :: sb, pb, ea, eb, hp => by
    subst ea
    subst eb
    have h1 : ((pa.length : Nat) : Int) = (pb.length : Int) := by omega
    by_cases e : x = y
    · subst e
      have ih := ev_eqIntS_l (pa ++ x :: sa) (pb ++ x :: sb) hab hn sa (pa ++ [x]) sb (pb ++ [x]) (snoc_mid _ _ _) (snoc_mid _ _ _) (by simp [hp])
      refine Ev.round (fun k => ?_) (Ev.cast ih (by simp))
      simp only [laws_eqIntS.l0]
      rw [if_pos (lt_mid _ _ _), if_pos (by omega), if_pos (by rw [h1]; exact lt_mid _ _ _), rd_mid, h1, rd_mid, if_pos rfl, ← h1, up_mid _ _ _ hn]
    · refine Ev.round (f := fun _ => some false) (fun k => ?_) (Ev.cast (Ev.now _) (by simp [e]))
      simp only [laws_eqIntS.l0]
      rw [if_pos (lt_mid _ _ _), if_pos (by omega), if_pos (by rw [h1]; exact lt_mid _ _ _), rd_mid, h1, rd_mid, if_neg e]
theorem ev_eqIntS (a b : List Int) (hn : a.length ≤ 9223372036854775807) : Ev (fun k => laws_eqIntS.f k a b) (decide (a = b)) := by
  unfold laws_eqIntS.f
  by_cases h : a.length = b.length
  · exact Ev.ite_pos (by omega) (ev_eqIntS_l a b h hn a [] b [] rfl rfl rfl)
  · refine Ev.ite_neg (by omega) (Ev.cast (Ev.now _) ?_)
    rw [decide_eq_false]
    rintro rfl
    exact h rfl

theorem in_eq (a lo hi : Int) : spec_l1In.f a lo hi = some (decide (lo ≤ a) && decide (a ≤ hi)) := by
  unfold spec_l1In.f
  by_cases h : a ≥ lo
  · rw [if_pos h]; simp [h]
  · rw [if_neg h]; simp [h]

theorem within_eq (a lo hi : Int) : impl_within.f a lo hi = some (decide (lo ≤ a) && decide (a ≤ hi)) := by
  unfold impl_within.f
  by_cases h : a ≥ lo
  · rw [if_pos h]; simp [h]
  · rw [if_neg h]; simp [h]

theorem ev_l1All_l (l : List Int) (lo hi : Int) (hn : l.length ≤ 9223372036854775807) : ∀ (suf pre : List Int), l = pre ++ suf → Ev (fun k => spec_l1All.l0 k lo hi l (l.length : Int) (pre.length : Int)) (allIn suf lo hi)
  | [], pre, e => by
    subst e
    refine Ev.round (f := fun _ => some true) (fun k => ?_) (Ev.now _)
    simp only [spec_l1All.l0]
    rw [if_neg (by simp)]
  | x :: suf, pre, e => by
    subst e
    by_cases c : (decide (lo ≤ x) && decide (x ≤ hi)) = true
    · have ih := ev_l1All_l (pre ++ x :: suf) lo hi hn suf (pre ++ [x]) (snoc_mid _ _ _)
      refine Ev.round (fun k => ?_) (Ev.cast ih (by unfold allIn; rw [List.all_cons, c, Bool.true_and]))
      simp only [spec_l1All.l0]
      rw [if_pos (lt_mid _ _ _), if_pos (by omega), if_pos (lt_mid _ _ _), rd_mid, in_eq, Option.bind_some, if_pos c, up_mid _ _ _ hn]
    · refine Ev.round (f := fun _ => some false) (fun k => ?_) (Ev.cast (Ev.now _) (by unfold allIn; rw [List.all_cons, Bool.eq_false_iff.2 c, Bool.false_and]))
      simp only [spec_l1All.l0]
      rw [if_pos (lt_mid _ _ _), if_pos (by omega), if_pos (lt_mid _ _ _), rd_mid, in_eq, Option.bind_some, if_neg c]
theorem ev_l1All (l : List Int) (lo hi : Int) (hn : l.length ≤ 9223372036854775807) : Ev (fun k => spec_l1All.f k l lo hi) (allIn l lo hi) := ev_l1All_l l lo hi hn l [] rfl

theorem allWithin_eq (l : List Int) (lo hi : Int) : impl_allWithin.f l lo hi = some (allIn l lo hi) := rfl

theorem ev_l1Has_l (l : List Int) (n : Int) (hn : l.length ≤ 9223372036854775807) : ∀ (suf pre : List Int), l = pre ++ suf → Ev (fun k => spec_l1Has.l0 k n l (l.length : Int) (pre.length : Int)) (decide (n ∈ suf))
  | [], pre, e => by
    subst e
    refine Ev.round (f := fun _ => some false) (fun k => ?_) (Ev.cast (Ev.now _) (by simp))
    simp only [spec_l1Has.l0]
    rw [if_neg (by simp)]
  | x :: suf, pre, e => by
    subst e
    by_cases c : x = n
    · refine Ev.round (f := fun _ => some true) (fun k => ?_) (Ev.cast (Ev.now _) (by simp [c]))
      simp only [spec_l1Has.l0]
      rw [if_pos (lt_mid _ _ _), if_pos (by omega), if_pos (lt_mid _ _ _), rd_mid, if_pos c]
    · have ih := ev_l1Has_l (pre ++ x :: suf) n hn suf (pre ++ [x]) (snoc_mid _ _ _)
      refine Ev.round (fun k => ?_) (Ev.cast ih (by simp [Ne.symm c]))
      simp only [spec_l1Has.l0]
      rw [if_pos (lt_mid _ _ _), if_pos (by omega), if_pos (lt_mid _ _ _), rd_mid, if_neg c, up_mid _ _ _ hn]
theorem ev_l1Has (l : List Int) (n : Int) (hn : l.length ≤ 9223372036854775807) : Ev (fun k => spec_l1Has.f k l n) (decide (n ∈ l)) := ev_l1Has_l l n hn l [] rfl

theorem ev_Index_l (l : List Int) (n : Int) (hn : l.length ≤ 9223372036854775807) : ∀ (suf pre : List Int), l = pre ++ suf → Ev (fun k => slices_Index_int_int.l0 k l n (l.length : Int) (pre.length : Int)) (if idxI suf n = -1 then -1 else (pre.length : Int) + idxI suf n)
  | [], pre, e => by
    subst e
    refine Ev.round (f := fun _ => some (-1)) (fun k => ?_) (Ev.cast (Ev.now _) (by rw [idxI_nil, if_pos rfl]))
    simp only [slices_Index_int_int.l0]
    rw [if_neg (by simp)]
  | x :: suf, pre, e => by
    subst e
    by_cases c : x = n
    · refine Ev.round (f := fun _ => some (pre.length : Int)) (fun k => ?_) (Ev.cast (Ev.now _) (by rw [idxI_cons, if_pos c, if_neg (by omega)]; omega))
      simp only [slices_Index_int_int.l0]
      rw [if_pos (lt_mid _ _ _), if_pos (by omega), if_pos (lt_mid _ _ _), rd_mid, if_pos c.symm]
    · have ih := ev_Index_l (pre ++ x :: suf) n hn suf (pre ++ [x]) (snoc_mid _ _ _)
      have hg := idxI_ge suf n
      refine Ev.round (fun k => ?_) (Ev.cast ih (by rw [idxI_cons, if_neg c, List.length_append, List.length_singleton]; by_cases e : idxI suf n = -1 <;> simp [e]; omega))
      simp only [slices_Index_int_int.l0]
      rw [if_pos (lt_mid _ _ _), if_pos (by omega), if_pos (lt_mid _ _ _), rd_mid, if_neg (Ne.symm c), up_mid _ _ _ hn]
theorem ev_Index (l : List Int) (n : Int) (hn : l.length ≤ 9223372036854775807) : Ev (fun k => slices_Index_int_int.f k l n) (idxI l n) :=
  Ev.cast (ev_Index_l l n hn l [] rfl) (by have := idxI_ge l n; split <;> simp_all)

theorem ev_Contains (l : List Int) (n : Int) (hn : l.length ≤ 9223372036854775807) : Ev (fun k => slices_Contains_int_int.f k l n) (decide (n ∈ l)) := by
  unfold slices_Contains_int_int.f
  exact Ev.bind (ev_Index l n hn) (Ev.cast (Ev.now _) (idxI_mem l n))

/-! marks in slices of ints -/

theorem szIntS_eq (l : List Int) (a : Int) : laws_szIntS.f l a = some (if wrap64 (a - (l.length : Int)) < 0 then -1 else wrap64 (a - (l.length : Int))) := by
  unfold laws_szIntS.f
  split <;> rfl

/-! slices of slices of ints -/
theorem rdL_mid (pre suf : List (List Int)) (x : List Int) : rd_L1 (pre ++ x :: suf) (pre.length : Int) = x := getD_mid [] pre suf x
/-- What two texts answer alike. -/
def Same {α : Type} (g h : Nat → Option α) : Prop := ∃ r, Ev g r ∧ Ev h r
theorem Same.of {α : Type} {g h : Nat → Option α} {r : α} (a : Ev g r) (b : Ev h r) : Same g h := ⟨r, a, b⟩
theorem Same.now {α : Type} (r : α) : Same (fun _ => some r) (fun _ => some r) := ⟨r, Ev.now _, Ev.now _⟩
theorem Same.round {α : Type} {g h g' h' : Nat → Option α} (a : ∀ k, g (k + 1) = g' k) (b : ∀ k, h (k + 1) = h' k) (s : Same g' h') : Same g h := by
  obtain ⟨r, p, q⟩ := s
  exact ⟨r, Ev.round a p, Ev.round b q⟩
theorem Same.eqv {α : Type} {g h g' h' : Nat → Option α} (a : ∀ k, g k = g' k) (b : ∀ k, h k = h' k) (s : Same g' h') : Same g h := by
  obtain ⟨r, p, q⟩ := s
  exact ⟨r, Ev.eqv a p, Ev.eqv b q⟩
theorem Same.bind {α β : Type} {g h : Nat → Option α} {f f' : Nat → α → Option β} {a : α} (p : Ev g a) (q : Ev h a) (s : Same (fun n => f n a) (fun n => f' n a)) : Same (fun n => (g n).bind (f n)) (fun n => (h n).bind (f' n)) := by
  obtain ⟨r, p', q'⟩ := s
  exact ⟨r, Ev.bind p p', Ev.bind q q'⟩

def szI (x : List Int) (a : Int) : Int := if wrap64 (a - (x.length : Int)) < 0 then -1 else wrap64 (a - (x.length : Int))
def szGo (a : Int) : List (List Int) → Int
  | [] => a
  | x :: l => if szI x a < 0 then -1 else szGo (szI x a) l
def szRows (l : List (List Int)) (a : Int) : Int := if wrap64 (a - (l.length : Int)) < 0 then -1 else szGo (wrap64 (a - (l.length : Int))) l
theorem ev_szIntSS_l (l : List (List Int)) (hn : l.length ≤ 9223372036854775807) : ∀ (suf pre : List (List Int)) (a : Int), l = pre ++ suf → Ev (fun k => laws_szIntSS.l0 k l a (pre.length : Int)) (szGo a suf)
  | [], pre, a, e => by
    subst e
    refine Ev.round (f := fun _ => some a) (fun k => ?_) (Ev.now _)
    simp only [laws_szIntSS.l0]
    rw [if_neg (by simp)]
  | x :: suf, pre, a, e => by
    subst e
    have hz : laws_szIntS.f x a = some (szI x a) := szIntS_eq x a
    by_cases c : szI x a < 0
    · refine Ev.round (f := fun _ => some (-1)) (fun k => ?_) (Ev.cast (Ev.now _) (by rw [szGo, if_pos c]))
      simp only [laws_szIntSS.l0]
      rw [if_pos (lt_mid _ _ _), if_pos (by omega), rdL_mid, hz, Option.bind_some, if_pos c]
    · have ih := ev_szIntSS_l (pre ++ x :: suf) hn suf (pre ++ [x]) (szI x a) (snoc_mid _ _ _)
      refine Ev.round (fun k => ?_) (Ev.cast ih (by rw [szGo, if_neg c]))
      simp only [laws_szIntSS.l0]
      rw [if_pos (lt_mid _ _ _), if_pos (by omega), rdL_mid, hz, Option.bind_some, if_neg c, up_mid _ _ _ hn]
theorem ev_szIntSS (l : List (List Int)) (a : Int) (hn : l.length ≤ 9223372036854775807) : Ev (fun k => laws_szIntSS.f k l a) (szRows l a) := by
  unfold laws_szIntSS.f szRows
  by_cases c : wrap64 (a - (l.length : Int)) < 0
  · rw [if_pos c]
    exact Ev.ite_pos c (Ev.now _)
  · rw [if_neg c]
    exact Ev.ite_neg c (ev_szIntSS_l l hn l [] _ rfl)
theorem szI_ok {x : List Int} {a : Int} (h0 : 0 ≤ a) (ha : a ≤ 4611686018427387904) (hx : x.length ≤ 9223372036854775807) (h : ¬ szI x a < 0) : (x.length : Int) ≤ a ∧ szI x a = a - x.length := by
  have hw : wrap64 (a - (x.length : Int)) = a - x.length := by unfold wrap64; omega
  unfold szI at h ⊢
  rw [hw] at h ⊢
  by_cases c : a - (x.length : Int) < 0
  · rw [if_pos c] at h; omega
  · rw [if_neg c]; omega
theorem szGo_ok : ∀ (l : List (List Int)) (a : Int), 0 ≤ a → a ≤ 4611686018427387904 → (∀ x ∈ l, x.length ≤ 9223372036854775807) → ¬ szGo a l < 0 → (∀ x ∈ l, (x.length : Int) ≤ a) ∧ szGo a l ≤ a
  | [], a, h0, ha, hx, h => ⟨by simp, Int.le_refl _⟩
  | x :: l, a, h0, ha, hx, h => by
    rw [szGo] at h ⊢
    by_cases c : szI x a < 0
    · rw [if_pos c] at h; omega
    · rw [if_neg c] at h ⊢
      obtain ⟨h1, h2⟩ := szI_ok h0 ha (hx x (by simp)) c
      obtain ⟨h3, h4⟩ := szGo_ok l (szI x a) (by omega) (by omega) (fun y hy => hx y (by simp [hy])) h
      refine ⟨fun y hy => ?_, by omega⟩
      rcases List.mem_cons.1 hy with rfl | hy
      · exact h1
      · have := h3 y hy; omega
theorem szRows_ok {l : List (List Int)} {a : Int} (h0 : 0 ≤ a) (ha : a ≤ 4611686018427387904) (hl : l.length ≤ 9223372036854775807) (hx : ∀ x ∈ l, x.length ≤ 9223372036854775807) (h : ¬ szRows l a < 0) : (l.length : Int) ≤ a ∧ (∀ x ∈ l, (x.length : Int) ≤ a) ∧ szRows l a ≤ a := by
  have hw : wrap64 (a - (l.length : Int)) = a - l.length := by unfold wrap64; omega
  unfold szRows at h ⊢
  rw [hw] at h ⊢
  by_cases c : a - (l.length : Int) < 0
  · rw [if_pos c] at h; omega
  · rw [if_neg c] at h ⊢
    obtain ⟨h3, h4⟩ := szGo_ok l _ (by omega) (by omega) hx h
    exact ⟨by omega, fun x hx => by have := h3 x hx; omega, by omega⟩

theorem ev_toIntSS_l (l : List (List Int)) (hn : l.length ≤ 11728124029610) (hx : ∀ x ∈ l, x.length ≤ 35184372088832) : ∀ (suf pre : List (List Int)), l = pre ++ suf → ∀ (z : List (List Int)), z.length = suf.length → Ev (fun k => laws_toIntSS.l0 k l (pre ++ z) (pre.length : Int)) l
  | [], pre, e, z, hz => by
    subst e
    have : z = [] := List.length_eq_zero_iff.1 hz
    subst this
    refine Ev.round (f := fun _ => some (pre ++ [])) (fun k => ?_) (Ev.now _)
    simp only [laws_toIntSS.l0]
    rw [if_neg (by simp)]
  | x :: suf, pre, e, [], hz => by simp at hz
  | x :: suf, pre, e, y :: z, hz => by
    subst e
    have ih := ev_toIntSS_l (pre ++ x :: suf) hn hx suf (pre ++ [x]) (snoc_mid _ _ _) z (by simpa using hz)
    have ht := ev_toIntS x (hx x (by simp))
    refine Ev.round (fun k => ?_) (Ev.bind ht (f := fun k t => laws_toIntSS.l0 k (pre ++ x :: suf) (pre ++ [t] ++ z) (((pre ++ [x]).length : Nat) : Int)) ih)
    simp only [laws_toIntSS.l0]
    rw [if_pos (lt_mid _ _ _), if_pos (by omega), rdL_mid]
    congr 1
    funext t
    rw [if_pos (lt_mid _ _ _), up_mid pre suf x (by omega), Int.toNat_natCast, List.set_append_right _ _ (Nat.le_refl _), Nat.sub_self, List.set_cons_zero]
    simp
theorem ev_toIntSS (l : List (List Int)) (hn : l.length ≤ 11728124029610) (hx : ∀ x ∈ l, x.length ≤ 35184372088832) : Ev (fun k => laws_toIntSS.f k l) l := by
  have h := ev_toIntSS_l l hn hx l [] rfl (List.replicate l.length []) (by simp)
  refine Ev.eqv (fun k => ?_) h
  unfold laws_toIntSS.f
  rw [if_pos (by omega), Int.toNat_natCast, if_pos hn]
  rfl

theorem ev_eqIntSS_l (a b : List (List Int)) (hab : a.length = b.length) (hn : a.length ≤ 9223372036854775807) (hx : ∀ x ∈ a, x.length ≤ 9223372036854775807) : ∀ (sa pa sb pb : List (List Int)), a = pa ++ sa → b = pb ++ sb → pa.length = pb.length → Ev (fun k => laws_eqIntSS.l0 k a b (pa.length : Int)) (decide (sa = sb))
  | [], pa, sb, pb, ea, eb, hp => by
    subst ea
    refine Ev.round (f := fun _ => some true) (fun k => ?_) (Ev.cast (Ev.now _) ?_)
    · simp only [laws_eqIntSS.l0]
      rw [if_neg (by simp)]
    · have : sb = [] := by
        rw [eb] at hab
        simp at hab
        exact List.length_eq_zero_iff.1 (by omega)
      rw [this]; rfl
  | x :: sa, pa, [], pb, ea, eb, hp => by
    rw [ea, eb] at hab
    simp at hab
    omega
  | x :: sa, pa, y :: sb, pb, ea, eb, hp => by
    subst ea
    subst eb
    have h1 : ((pa.length : Nat) : Int) = (pb.length : Int) := by omega
    have h2 : (pa.length : Int) < ((pb ++ y :: sb).length : Int) := by rw [h1]; exact lt_mid _ _ _
    have h3 : rd_L1 (pb ++ y :: sb) (pa.length : Int) = y := by rw [h1]; exact rdL_mid _ _ _
    have he := ev_eqIntS x y (hx x (by simp))
    have ih := fun (e : x = y) => ev_eqIntSS_l (pa ++ x :: sa) (pb ++ y :: sb) hab hn hx sa (pa ++ [x]) sb (pb ++ [y]) (snoc_mid _ _ _) (snoc_mid _ _ _) (by simp [hp])
    refine Ev.round (fun k => ?_) (Ev.bind he (f := fun k t => if t = true then laws_eqIntSS.l0 k (pa ++ x :: sa) (pb ++ y :: sb) (((pa ++ [x]).length : Nat) : Int) else some false) ?_)
    · simp only [laws_eqIntSS.l0]
      rw [if_pos (lt_mid _ _ _), if_pos (by omega), if_pos h2, rdL_mid, h3, up_mid _ _ _ hn]
    · by_cases e : x = y
      · exact Ev.ite_pos (by simp [e]) (Ev.cast (ih e) (by simp [e]))
      · exact Ev.ite_neg (by simp [e]) (Ev.cast (Ev.now _) (by simp [e]))
theorem ev_eqIntSS (a b : List (List Int)) (hn : a.length ≤ 9223372036854775807) (hx : ∀ x ∈ a, x.length ≤ 9223372036854775807) : Ev (fun k => laws_eqIntSS.f k a b) (decide (a = b)) := by
  unfold laws_eqIntSS.f
  by_cases h : a.length = b.length
  · exact Ev.ite_pos (by omega) (ev_eqIntSS_l a b h hn hx a [] b [] rfl rfl rfl)
  · refine Ev.ite_neg (by omega) (Ev.cast (Ev.now _) ?_)
    rw [decide_eq_false]
    rintro rfl
    exact h rfl

/-! nets -/
/-- All rows are as long as n says, and lie from 0 up to hi. -/
def rowsB (n : Nat) (hi : Int) (l : List (List Int)) : Bool := l.all fun x => decide (x.length = n) && allIn x 0 hi
theorem rowsB_iff {n : Nat} {hi : Int} {l : List (List Int)} : rowsB n hi l = true ↔ ∀ x ∈ l, x.length = n ∧ ∀ v ∈ x, 0 ≤ v ∧ v ≤ hi := by
  unfold rowsB
  rw [List.all_eq_true]
  refine forall_congr' fun x => ?_
  rw [Bool.and_eq_true, decide_eq_true_eq, allIn_iff]
theorem rdL_mem {l : List (List Int)} {p : Int} (h0 : 0 ≤ p) (h1 : p < (l.length : Int)) : rd_L1 l p ∈ l := by
  unfold rd_L1
  exact getD_mem _ (by omega)

def netB (l : List (List Int)) : Bool := (decide (2 ≤ (l.length : Int)) && decide ((l.length : Int) ≤ 8)) && rowsB l.length 50 l
theorem netB_iff {l : List (List Int)} (h : netB l = true) : (2 ≤ l.length ∧ l.length ≤ 8) ∧ ∀ x ∈ l, x.length = l.length ∧ ∀ v ∈ x, 0 ≤ v ∧ v ≤ 50 := by
  unfold netB at h
  rw [Bool.and_eq_true, rowsB_iff] at h
  refine ⟨?_, h.2⟩
  have := h.1
  simp at this
  omega
theorem ev_l13Rows_l (l : List (List Int)) (hn : l.length ≤ 9223372036854775807) (hx : ∀ x ∈ l, x.length ≤ 9223372036854775807) : ∀ (suf pre : List (List Int)), l = pre ++ suf →
    Ev (fun k => spec_l13Rows.l0 k l l (l.length : Int) (pre.length : Int)) (rowsB l.length 50 suf && (decide (2 ≤ (l.length : Int)) && decide ((l.length : Int) ≤ 8)))
  | [], pre, e => by
    subst e
    refine Ev.round (f := fun _ => some (decide (2 ≤ ((pre ++ []).length : Int)) && decide (((pre ++ []).length : Int) ≤ 8))) (fun k => ?_) (Ev.cast (Ev.now _) (by simp [rowsB]))
    simp only [spec_l13Rows.l0]
    rw [if_neg (by simp), in_eq, Option.bind_some]
  | x :: suf, pre, e => by
    subst e
    have ih := ev_l13Rows_l (pre ++ x :: suf) hn hx suf (pre ++ [x]) (snoc_mid _ _ _)
    generalize hN : (pre ++ x :: suf).length = N at ih ⊢
    by_cases c : x.length = N
    · have ha := ev_l1All x 0 50 (hx x (by simp))
      refine Ev.round (fun k => ?_) (Ev.bind ha (f := fun k t => if t = true then spec_l13Rows.l0 k (pre ++ x :: suf) (pre ++ x :: suf) (N : Int) (((pre ++ [x]).length : Nat) : Int) else some false) ?_)
      · simp only [spec_l13Rows.l0]
        rw [if_pos (by rw [← hN]; exact lt_mid _ _ _), if_pos (by omega), if_pos (lt_mid _ _ _), rdL_mid, hN, if_pos (by omega), up_mid _ _ _ hn]
      · by_cases d : allIn x 0 50 = true
        · exact Ev.ite_pos d (Ev.cast ih (by unfold rowsB; rw [List.all_cons, d, decide_eq_true c]; rfl))
        · exact Ev.ite_neg d (Ev.cast (Ev.now _) (by unfold rowsB; rw [List.all_cons, Bool.eq_false_iff.2 d]; simp))
    · refine Ev.round (f := fun _ => some false) (fun k => ?_) (Ev.cast (Ev.now _) (by unfold rowsB; rw [List.all_cons, decide_eq_false c]; simp))
      simp only [spec_l13Rows.l0]
      rw [if_pos (by rw [← hN]; exact lt_mid _ _ _), if_pos (by omega), if_pos (lt_mid _ _ _), rdL_mid, hN, if_neg (by omega)]
theorem ev_l13Rows (l : List (List Int)) (hn : l.length ≤ 9223372036854775807) (hx : ∀ x ∈ l, x.length ≤ 9223372036854775807) : Ev (fun k => spec_l13Rows.f k l) (netB l) :=
  Ev.cast (ev_l13Rows_l l hn hx l [] rfl) (Bool.and_comm _ _)

theorem areRows_eq (l : List (List Int)) : impl_areRows.f l = some (netB l) := rfl

/-- Nothing but 0 on the diagonal. -/
def diagZ : Int → List (List Int) → Bool
  | _, [] => true
  | i, x :: l => decide (rd x i = 0) && diagZ (i + 1) l
def goodNetB (l : List (List Int)) : Bool := netB l && diagZ 0 l
theorem goodNetB_iff {l : List (List Int)} (h : goodNetB l = true) : (2 ≤ l.length ∧ l.length ≤ 8) ∧ ∀ x ∈ l, x.length = l.length ∧ ∀ v ∈ x, 0 ≤ v ∧ v ≤ 50 := by
  unfold goodNetB at h
  rw [Bool.and_eq_true] at h
  exact netB_iff h.1
theorem ev_diag_l (l : List (List Int)) (hn : l.length ≤ 8) (hx : ∀ x ∈ l, x.length = l.length) : ∀ (suf pre : List (List Int)), l = pre ++ suf →
    Ev (fun k => spec_GoodNet.l0 k l (l.length : Int) (pre.length : Int)) (diagZ (pre.length : Int) suf) ∧ Ev (fun k => impl_GoodNet.l0 k l (l.length : Int) (pre.length : Int)) (diagZ (pre.length : Int) suf)
  | [], pre, e => by
    subst e
    refine ⟨Ev.round (f := fun _ => some true) (fun k => ?_) (Ev.now _), Ev.round (f := fun _ => some true) (fun k => ?_) (Ev.now _)⟩
    · simp only [spec_GoodNet.l0]
      rw [if_neg (by simp)]
    · simp only [impl_GoodNet.l0]
      rw [if_neg (by simp)]
  | x :: suf, pre, e => by
    have ih := ev_diag_l l hn hx suf (pre ++ [x]) (by rw [e]; simp)
    have hxl := hx x (by rw [e]; simp)
    have h1 : (pre.length : Int) < (l.length : Int) := by rw [e]; exact lt_mid _ _ _
    have h2 : rd_L1 l (pre.length : Int) = x := by rw [e]; exact rdL_mid _ _ _
    have h3 : wrap64 ((pre.length : Int) + 1) = ((pre ++ [x]).length : Int) := by rw [List.length_append, List.length_singleton]; unfold wrap64; omega
    have h4 : ((pre ++ [x]).length : Int) = (pre.length : Int) + 1 := by simp
    by_cases c : rd x (pre.length : Int) = 0
    · refine ⟨Ev.round (fun k => ?_) (Ev.cast ih.1 (by rw [diagZ, decide_eq_true c, Bool.true_and, h4])), Ev.round (fun k => ?_) (Ev.cast ih.2 (by rw [diagZ, decide_eq_true c, Bool.true_and, h4]))⟩
      · simp only [spec_GoodNet.l0]
        rw [if_pos h1, if_pos (by omega), if_pos h1, h2, if_pos (by omega), if_pos c, h3]
      · simp only [impl_GoodNet.l0]
        rw [if_pos h1, if_pos (by omega), if_pos h1, h2, if_pos (by omega), if_pos c, h3]
    · refine ⟨Ev.round (f := fun _ => some false) (fun k => ?_) (Ev.cast (Ev.now _) (by rw [diagZ, decide_eq_false c]; rfl)), Ev.round (f := fun _ => some false) (fun k => ?_) (Ev.cast (Ev.now _) (by rw [diagZ, decide_eq_false c]; rfl))⟩
      · simp only [spec_GoodNet.l0]
        rw [if_pos h1, if_pos (by omega), if_pos h1, h2, if_pos (by omega), if_neg c]
      · simp only [impl_GoodNet.l0]
        rw [if_pos h1, if_pos (by omega), if_pos h1, h2, if_pos (by omega), if_neg c]
theorem ev_GoodNet (l : List (List Int)) (hn : l.length ≤ 9223372036854775807) (hx : ∀ x ∈ l, x.length ≤ 9223372036854775807) : Ev (fun k => spec_GoodNet.f k l) (goodNetB l) := by
  unfold spec_GoodNet.f goodNetB
  refine Ev.bind (ev_l13Rows l hn hx) ?_
  by_cases c : netB l = true
  · have h := netB_iff c
    exact Ev.ite_pos c (Ev.cast (ev_diag_l l h.1.2 (fun x hx => (h.2 x hx).1) l [] rfl).1 (by rw [c]; rfl))
  · exact Ev.ite_neg c (Ev.cast (Ev.now _) (by rw [Bool.eq_false_iff.2 c]; rfl))
theorem ev_implGoodNet (l : List (List Int)) : Ev (fun k => impl_GoodNet.f k l) (goodNetB l) := by
  unfold impl_GoodNet.f goodNetB
  refine Ev.bindc (areRows_eq l) ?_
  by_cases c : netB l = true
  · have h := netB_iff c
    exact Ev.ite_pos c (Ev.cast (ev_diag_l l h.1.2 (fun x hx => (h.2 x hx).1) l [] rfl).2 (by rw [c]; rfl))
  · exact Ev.ite_neg c (Ev.cast (Ev.now _) (by rw [Bool.eq_false_iff.2 c]; rfl))

/-! rising lists -/
/-- Each number is greater than the one ahead of it (prev: what stands ahead of the list). -/
def upB : Option Int → List Int → Bool
  | _, [] => true
  | none, x :: l => upB (some x) l
  | some p, x :: l => decide (p < x) && upB (some x) l
def riseB (l : List Int) (n : Int) : Bool := upB none l && allIn l 0 (n - 1)
def riseAt (n : Int) : Option Int → List Int → Bool
  | _, [] => true
  | none, x :: l => (decide (0 ≤ x) && decide (x < n)) && riseAt n (some x) l
  | some p, x :: l => (decide (0 ≤ x) && decide (x < n)) && (decide (p < x) && riseAt n (some x) l)
theorem riseAt_eq (n : Int) : ∀ (l : List Int) (p : Option Int), riseAt n p l = (upB p l && allIn l 0 (n - 1))
  | [], p => by cases p <;> rfl
  | x :: l, none => by
    simp only [riseAt, upB, riseAt_eq n l, allIn, List.all_cons]
    rw [show decide (x < n) = decide (x ≤ n - 1) from decide_eq_decide.2 (by omega)]
    generalize (decide (0 ≤ x) && decide (x ≤ n - 1)) = a
    generalize upB (some x) l = b
    cases a <;> cases b <;> rfl
  | x :: l, some p => by
    simp only [riseAt, upB, riseAt_eq n l, allIn, List.all_cons]
    rw [show decide (x < n) = decide (x ≤ n - 1) from decide_eq_decide.2 (by omega)]
    generalize (decide (0 ≤ x) && decide (x ≤ n - 1)) = a
    generalize upB (some x) l = b
    generalize decide (p < x) = c
    cases a <;> cases b <;> cases c <;> rfl
/-- What stands ahead, and the list that lies ahead. -/
def Ahead : Option Int → List Int → Prop
  | none, pre => pre = []
  | some p, pre => ∃ q, pre = q ++ [p]

theorem ev_l8Rising_l (l : List Int) (n : Int) (hn : l.length ≤ 4611686018427387904) : ∀ (suf pre : List Int) (p : Option Int), l = pre ++ suf → Ahead p pre → Ev (fun k => spec_l8Rising.l0 k l n l (l.length : Int) (pre.length : Int)) (riseAt n p suf)
  | [], pre, p, e, ha => by
    refine Ev.round (f := fun _ => some true) (fun k => ?_) (Ev.cast (Ev.now _) (by cases p <;> rfl))
    simp only [spec_l8Rising.l0]
    rw [if_neg (by subst e; simp)]
  | x :: suf, pre, p, e, ha => by
    have h1 : (pre.length : Int) < (l.length : Int) := by rw [e]; exact lt_mid _ _ _
    have h2 : rd l (pre.length : Int) = x := by rw [e]; exact rd_mid _ _ _
    have h3 : wrap64 ((pre.length : Int) + 1) = ((pre ++ [x]).length : Int) := by rw [List.length_append, List.length_singleton]; unfold wrap64; omega
    have ih := ev_l8Rising_l l n hn suf (pre ++ [x]) (some x) (by rw [e]; simp) ⟨pre, rfl⟩
    by_cases c0 : x < 0
    · refine Ev.round (f := fun _ => some false) (fun k => ?_) (Ev.cast (Ev.now _) (by cases p <;> simp [riseAt, show ¬ 0 ≤ x by omega]))
      simp only [spec_l8Rising.l0]
      rw [if_pos h1, if_pos (by omega), if_pos h1, h2, if_pos c0]
    by_cases c1 : x ≥ n
    · refine Ev.round (f := fun _ => some false) (fun k => ?_) (Ev.cast (Ev.now _) (by cases p <;> simp [riseAt, show ¬ x < n by omega]))
      simp only [spec_l8Rising.l0]
      rw [if_pos h1, if_pos (by omega), if_pos h1, h2, if_neg c0, if_pos c1]
    cases p with
    | none =>
      have hp : pre = [] := ha
      subst hp
      refine Ev.round (fun k => ?_) (Ev.cast ih (by simp [riseAt, show 0 ≤ x by omega, show x < n by omega]))
      simp only [spec_l8Rising.l0]
      rw [if_pos h1, if_pos (by omega), if_pos h1, h2, if_neg c0, if_neg c1, if_neg (by simp), h3]
    | some p =>
      obtain ⟨q, hq⟩ := ha
      have h6 : (pre.length : Int) = q.length + 1 := by rw [hq]; simp
      have h4 : wrap64 ((pre.length : Int) - 1) = (q.length : Int) := by unfold wrap64; omega
      have h5 : rd l (q.length : Int) = p := by rw [e, hq, List.append_assoc]; exact rd_mid _ _ _
      by_cases c2 : p ≥ x
      · refine Ev.round (f := fun _ => some false) (fun k => ?_) (Ev.cast (Ev.now _) (by simp [riseAt, show ¬ p < x by omega]))
        simp only [spec_l8Rising.l0]
        rw [if_pos h1, if_pos (by omega), if_pos h1, h2, if_neg c0, if_neg c1, if_pos (by omega), h4, if_pos (by omega), if_pos (by omega), h5, if_pos c2]
      · refine Ev.round (fun k => ?_) (Ev.cast ih (by simp [riseAt, show 0 ≤ x by omega, show x < n by omega, show p < x by omega]))
        simp only [spec_l8Rising.l0]
        rw [if_pos h1, if_pos (by omega), if_pos h1, h2, if_neg c0, if_neg c1, if_pos (by omega), h4, if_pos (by omega), if_pos (by omega), h5, if_neg c2, h3]
theorem ev_l8Rising (l : List Int) (n : Int) (hn : l.length ≤ 4611686018427387904) : Ev (fun k => spec_l8Rising.f k l n) (riseB l n) :=
  Ev.cast (ev_l8Rising_l l n hn l [] none rfl rfl) (riseAt_eq n l none)

theorem ev_isRising_l (l : List Int) (n : Int) (hn : l.length ≤ 4611686018427387904) (h0 : 0 ≤ n) (h9 : n ≤ 4611686018427387904) : ∀ (suf pre : List Int) (p : Option Int), l = pre ++ suf → Ahead p pre → Ev (fun k => impl_isRising.l0 k l n l (l.length : Int) (pre.length : Int)) (upB p suf && allIn l 0 (n - 1))
  | [], pre, p, e, ha => by
    have hw : wrap64 (n - 1) = n - 1 := by unfold wrap64; omega
    refine Ev.round (f := fun _ => some (allIn l 0 (n - 1))) (fun k => ?_) (Ev.cast (Ev.now _) (by cases p <;> simp [upB]))
    simp only [impl_isRising.l0]
    rw [if_neg (by subst e; simp), hw, allWithin_eq]
    rfl
  | x :: suf, pre, p, e, ha => by
    have h1 : (pre.length : Int) < (l.length : Int) := by rw [e]; exact lt_mid _ _ _
    have h2 : rd l (pre.length : Int) = x := by rw [e]; exact rd_mid _ _ _
    have h3 : wrap64 ((pre.length : Int) + 1) = ((pre ++ [x]).length : Int) := by rw [List.length_append, List.length_singleton]; unfold wrap64; omega
    have ih := ev_isRising_l l n hn h0 h9 suf (pre ++ [x]) (some x) (by rw [e]; simp) ⟨pre, rfl⟩
    cases p with
    | none =>
      have hp : pre = [] := ha
      subst hp
      refine Ev.round (fun k => ?_) (Ev.cast ih (by simp [upB]))
      simp only [impl_isRising.l0]
      rw [if_pos h1, if_pos (by omega), if_pos h1, if_neg (by simp), h3]
    | some p =>
      obtain ⟨q, hq⟩ := ha
      have h6 : (pre.length : Int) = q.length + 1 := by rw [hq]; simp
      have h4 : wrap64 ((pre.length : Int) - 1) = (q.length : Int) := by unfold wrap64; omega
      have h5 : rd l (q.length : Int) = p := by rw [e, hq, List.append_assoc]; exact rd_mid _ _ _
      by_cases c2 : p ≥ x
      · refine Ev.round (f := fun _ => some false) (fun k => ?_) (Ev.cast (Ev.now _) (by simp [upB, show ¬ p < x by omega]))
        simp only [impl_isRising.l0]
        rw [if_pos h1, if_pos (by omega), if_pos h1, h2, if_pos (by omega), h4, if_pos (by omega), if_pos (by omega), h5, if_pos c2]
      · refine Ev.round (fun k => ?_) (Ev.cast ih (by simp [upB, show p < x by omega]))
        simp only [impl_isRising.l0]
        rw [if_pos h1, if_pos (by omega), if_pos h1, h2, if_pos (by omega), h4, if_pos (by omega), if_pos (by omega), h5, if_neg c2, h3]
theorem ev_isRising (l : List Int) (n : Int) (hn : l.length ≤ 4611686018427387904) (h0 : 0 ≤ n) (h9 : n ≤ 4611686018427387904) : Ev (fun k => impl_isRising.f k l n) (riseB l n) :=
  ev_isRising_l l n hn h0 h9 l [] none rfl rfl

/-! cuts -/

theorem upB_lt : ∀ (l : List Int) (p : Int), upB (some p) l = true → ∀ y ∈ l, p < y
  | [], p, h, y, hy => by simp at hy
  | x :: l, p, h, y, hy => by
    rw [upB, Bool.and_eq_true, decide_eq_true_eq] at h
    rcases List.mem_cons.1 hy with rfl | hy
    · exact h.1
    · have := upB_lt l x h.2 y hy
      omega
theorem side_iff (s : List Int) (n : Int) : (riseB s (n - 1) = true ∧ s ≠ [] ∧ rd s 0 = 0) ↔ (riseB s n = true ∧ 0 ∈ s ∧ ¬ (n - 1) ∈ s) := by
  unfold riseB
  rw [Bool.and_eq_true, Bool.and_eq_true, allIn_iff, allIn_iff]
  cases s with
  | nil => simp
  | cons x t =>
    have hx : rd (x :: t) 0 = x := rfl
    rw [hx]
    refine ⟨fun ⟨⟨h1, h2⟩, _, h3⟩ => ⟨⟨h1, fun y hy => by have := h2 y hy; omega⟩, by rw [h3]; simp, fun hm => by have := h2 _ hm; omega⟩, fun ⟨⟨h1, h2⟩, h3, h4⟩ => ⟨⟨h1, fun y hy => ?_⟩, by simp, ?_⟩⟩
    · have := h2 y hy
      have : y ≠ n - 1 := fun e => h4 (e ▸ hy)
      omega
    · rcases List.mem_cons.1 h3 with e | hm
      · exact e.symm
      · have h5 := upB_lt t x h1 0 hm
        have := h2 x (by simp)
        omega
theorem cut_in (net : List (List Int)) (s : List Int) (L i x : Int) (hs : s.length ≤ 9223372036854775807) (hx0 : 0 ≤ x) (hxn : x < (net.length : Int)) (hn : net.length ≤ 8) (hr : (rd_L1 net x).length = net.length)
    (H : ∀ acc, Same (fun k => spec_CutWidth.l0 k net s acc s L (wrap64 (i + 1))) (fun k => impl_CutWidth.l0 k net s acc s L (wrap64 (i + 1)))) : ∀ (t p : List Int) (acc : Int), rd_L1 net x = p ++ t →
    Same (fun k => spec_CutWidth.l1 k net s acc x s L i (net.length : Int) (p.length : Int)) (fun k => impl_CutWidth.l1 k net s acc s L i (rd_L1 net x) ((rd_L1 net x).length : Int) (p.length : Int))
  | [], p, acc, e => by
    have hp : p.length = net.length := by rw [← hr, e]; simp
    refine Same.round (fun k => ?_) (fun k => ?_) (H acc)
    · simp only [spec_CutWidth.l1]
      rw [if_neg (by omega)]
    · simp only [impl_CutWidth.l1]
      rw [if_neg (by omega)]
  | y :: t, p, acc, e => by
    have h1 : (p.length : Int) < ((rd_L1 net x).length : Int) := by rw [e]; exact lt_mid _ _ _
    have h5 : rd (rd_L1 net x) (p.length : Int) = y := by rw [e]; exact rd_mid _ _ _
    have h3 : wrap64 ((p.length : Int) + 1) = ((p ++ [y]).length : Int) := by rw [List.length_append, List.length_singleton]; unfold wrap64; omega
    have ih := fun acc => cut_in net s L i x hs hx0 hxn hn hr H t (p ++ [y]) acc (by rw [e]; simp)
    have a := ev_l1Has s (p.length : Int) hs
    have b := ev_Contains s (p.length : Int) hs
    refine Same.round (g' := fun k => (spec_l1Has.f k s (p.length : Int)).bind fun t226 => if t226 = true then spec_CutWidth.l1 k net s acc x s L i (net.length : Int) ((p ++ [y]).length : Int) else spec_CutWidth.l1 k net s (wrap64 (acc + y)) x s L i (net.length : Int) ((p ++ [y]).length : Int))
      (h' := fun k => (slices_Contains_int_int.f k s (p.length : Int)).bind fun t241 => if t241 = true then impl_CutWidth.l1 k net s acc s L i (rd_L1 net x) ((rd_L1 net x).length : Int) ((p ++ [y]).length : Int) else impl_CutWidth.l1 k net s (wrap64 (acc + y)) s L i (rd_L1 net x) ((rd_L1 net x).length : Int) ((p ++ [y]).length : Int)) (fun k => ?_) (fun k => ?_) (Same.bind a b ?_)
    · simp only [spec_CutWidth.l1]
      rw [if_pos (by omega), h3, if_pos hx0, if_pos hxn, if_pos (by omega), if_pos h1, h5]
    · simp only [impl_CutWidth.l1]
      rw [if_pos h1, if_pos (by omega), if_pos h1, h3, h5]
    · by_cases c : decide ((p.length : Int) ∈ s) = true
      · exact Same.eqv (fun k => if_pos c) (fun k => if_pos c) (ih acc)
      · exact Same.eqv (fun k => if_neg c) (fun k => if_neg c) (ih _)
theorem cut_out (net : List (List Int)) (s : List Int) (hs : s.length ≤ 4611686018427387904) (hn : net.length ≤ 8) (hm : ∀ x ∈ net, x.length = net.length) (hx : ∀ x ∈ s, 0 ≤ x ∧ x < (net.length : Int)) : ∀ (suf pre : List Int) (acc : Int), s = pre ++ suf →
    Same (fun k => spec_CutWidth.l0 k net s acc s (s.length : Int) (pre.length : Int)) (fun k => impl_CutWidth.l0 k net s acc s (s.length : Int) (pre.length : Int))
  | [], pre, acc, e => by
    refine Same.round (g' := fun _ => some (acc, true)) (h' := fun _ => some (acc, true)) (fun k => ?_) (fun k => ?_) (Same.now _)
    · simp only [spec_CutWidth.l0]
      rw [if_neg (by rw [e]; simp)]
    · simp only [impl_CutWidth.l0]
      rw [if_neg (by rw [e]; simp)]
  | x :: suf, pre, acc, e => by
    have h1 : (pre.length : Int) < (s.length : Int) := by rw [e]; exact lt_mid _ _ _
    have h5 : rd s (pre.length : Int) = x := by rw [e]; exact rd_mid _ _ _
    have h3 : wrap64 ((pre.length : Int) + 1) = ((pre ++ [x]).length : Int) := by rw [List.length_append, List.length_singleton]; unfold wrap64; omega
    have hxx := hx x (by rw [e]; simp)
    have ih := fun acc => cut_out net s hs hn hm hx suf (pre ++ [x]) acc (by rw [e]; simp)
    have inn := cut_in net s (s.length : Int) (pre.length : Int) x (by omega) hxx.1 hxx.2 hn (hm _ (rdL_mem hxx.1 hxx.2)) (fun acc => by rw [h3]; exact ih acc) (rd_L1 net x) [] acc rfl
    refine Same.round (fun k => ?_) (fun k => ?_) inn
    · simp only [spec_CutWidth.l0]
      rw [if_pos h1, if_pos (by omega), if_pos h1, h5]
      rfl
    · simp only [impl_CutWidth.l0]
      rw [if_pos h1, if_pos (by omega), if_pos h1, h5, if_pos hxx.1, if_pos hxx.2]
      rfl
theorem same_CutWidth (net : List (List Int)) (s : List Int) (hm : net.length ≤ 9223372036854775807) (hmx : ∀ x ∈ net, x.length ≤ 9223372036854775807) (hs : s.length ≤ 4611686018427387904) : Same (fun k => spec_CutWidth.f k net s) (fun k => impl_CutWidth.f k net s) := by
  unfold spec_CutWidth.f impl_CutWidth.f
  refine Same.bind (ev_GoodNet net hm hmx) (ev_implGoodNet net) ?_
  have jt : ∀ v, v = true → Ev (fun k => spec_CutWidth.j0 k net s v) (0, false) := fun v hv => by
    subst hv
    refine Ev.round (f := fun _ => some (0, false)) (fun k => ?_) (Ev.now _)
    simp [spec_CutWidth.j0]
  have jt' : ∀ v, v = true → Ev (fun k => impl_CutWidth.j0 k net s v) (0, false) := fun v hv => by
    subst hv
    refine Ev.round (f := fun _ => some (0, false)) (fun k => ?_) (Ev.now _)
    simp [impl_CutWidth.j0]
  by_cases c : goodNetB net = true
  · refine Same.eqv (fun k => if_pos c) (fun k => if_pos c) ?_
    have hN := goodNetB_iff c
    have hw : wrap64 ((net.length : Int) - 1) = (net.length : Int) - 1 := by unfold wrap64; omega
    rw [hw]
    have a := ev_l8Rising s ((net.length : Int) - 1) hs
    have b := ev_isRising s (net.length : Int) hs (by omega) (by omega)
    have c0 := ev_Contains s 0 (by omega)
    have c1 := ev_Contains s ((net.length : Int) - 1) (by omega)
    by_cases g : riseB s ((net.length : Int) - 1) = true ∧ s ≠ [] ∧ rd s 0 = 0
    · obtain ⟨g1, g2, g3⟩ := (side_iff s _).1 g
      have hx : ∀ x ∈ s, 0 ≤ x ∧ x < (net.length : Int) := fun x hx => by
        unfold riseB at g1
        rw [Bool.and_eq_true, allIn_iff] at g1
        have := g1.2 x hx
        omega
      obtain ⟨r, p, q⟩ := cut_out net s hs hN.1.2 (fun x hx => (hN.2 x hx).1) hx s [] 0 rfl
      have hl : 0 < s.length := List.length_pos_iff.2 g.2.1
      refine Same.of (r := r) (Ev.bind a (Ev.ite_pos g.1 (Ev.ite_neg (by omega) (Ev.ite_pos (by omega) (Ev.round (fun k => ?_) p))))) (Ev.bind b (Ev.ite_pos g1 (Ev.bind c0 (Ev.ite_pos (by simp [g2]) (Ev.bind c1 (Ev.round (fun k => ?_) q))))))
      · simp only [spec_CutWidth.j0]
        rw [if_neg (by simp [g.2.2])]
        rfl
      · simp only [impl_CutWidth.j0]
        rw [if_neg (by simp [g3])]
        rfl
    · have g' := fun h => g ((side_iff s _).2 h)
      refine Same.of (r := (0, false)) (Ev.bind a ?_) (Ev.bind b ?_)
      · by_cases e1 : riseB s ((net.length : Int) - 1) = true
        · refine Ev.ite_pos e1 ?_
          by_cases e2 : s = []
          · exact Ev.ite_pos (by simp [e2]) (jt _ rfl)
          · have hl : 0 < s.length := List.length_pos_iff.2 e2
            refine Ev.ite_neg (by omega) (Ev.ite_pos (by omega) (jt _ ?_))
            have : rd s 0 ≠ 0 := fun e3 => g ⟨e1, e2, e3⟩
            simp [this]
        · exact Ev.ite_neg e1 (jt _ rfl)
      · by_cases e1 : riseB s (net.length : Int) = true
        · refine Ev.ite_pos e1 (Ev.bind c0 ?_)
          by_cases e2 : 0 ∈ s
          · refine Ev.ite_pos (by simp [e2]) (Ev.bind c1 (jt' _ ?_))
            have : (net.length : Int) - 1 ∈ s := Classical.byContradiction fun e3 => g' ⟨e1, e2, e3⟩
            simp [this]
          · exact Ev.ite_neg (by simp [e2]) (jt' _ rfl)
        · exact Ev.ite_neg e1 (jt' _ rfl)
  · exact Same.eqv (fun k => if_neg c) (fun k => if_neg c) (Same.of (jt _ rfl) (jt' _ rfl))

end Go.Proofs.Ytdbepjnapjjlcaa.Pure
