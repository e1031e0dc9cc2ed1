import Derived.Test.YtccnpnlmihcmlaaGLDoMoves0
import Derived.Test.YtccnpnlmihcmlaaGLDoMoves1
import Derived.Test.YtccnpnlmihcmlaaGLDoMoves2
import Derived.Test.YtccnpnlmihcmlaaGLDoMoves3
import Derived.Test.YtccnpnlmihcmlaaGLDoMoves4
namespace Go.Proofs.Ytccnpnlmihcmlaa.Pure
open Go.RowKit Go.Proofs.Ytccnpnlmihcmlaa.GLDoMoves Go.Proofs.YtccnpnlmihcmlaaW.PrintWords Go.Proofs.YtccnpnlmihcmlaaW.PrintLast Go.Proofs.YtccnpnlmihcmlaaW.PrintMore Go.Proofs.YtccnpnlmihcmlaaW.PrintOwn
set_option linter.unusedVariables false
set_option linter.unusedSimpArgs false
/-! rounds: what a loop over a list answers -/
theorem Ev.det {α : Type} {g : Nat → Option α} {r : α} (h : ∀ k, g k = some r) : Ev g r := ⟨0, fun k _ => h k⟩
theorem Ev.bind' {α β : Type} {g : Nat → Option α} {f : Nat → α → Option β} {a : α} {r : β} (h : Ev g a) (k : Ev (fun n => f n a) r) : Ev (fun n => (g n).bind (f n)) r := Ev.bind h k
theorem Ev.bindc {α β : Type} {g : Option α} {f : Nat → α → Option β} {a : α} {r : β} (h : g = some a) (k : Ev (fun n => f n a) r) : Ev (fun n => g.bind (f n)) r := by
  subst h
  exact k
/-- One round. -/
theorem Ev.round {α : Type} {g f : Nat → Option α} {r : α} (h : ∀ k, g (k + 1) = f k) (k : Ev f r) : Ev g r := Ev.step h k
theorem Ev.eqv {α : Type} {g f : Nat → Option α} {r : α} (h : ∀ k, g k = f k) (k : Ev f r) : Ev g r := Ev.congr h k
theorem Ev.cast {α : Type} {g : Nat → Option α} {r r' : α} (h : Ev g r) (e : r = r') : Ev g r' := e ▸ h
theorem Ev.ite_pos {α : Type} {c : Prop} [Decidable c] {g f : Nat → Option α} {r : α} (hc : c) (k : Ev g r) : Ev (fun n => if c then g n else f n) r := by
  refine Ev.eqv (fun n => ?_) k
  rw [if_pos hc]
theorem Ev.ite_neg {α : Type} {c : Prop} [Decidable c] {g f : Nat → Option α} {r : α} (hc : ¬ c) (k : Ev f r) : Ev (fun n => if c then g n else f n) r := by
  refine Ev.eqv (fun n => ?_) k
  rw [if_neg hc]
theorem getD_mid {α : Type} (d : α) (pre suf : List α) (x : α) : (pre ++ x :: suf).getD (pre.length : Int).toNat d = x := by
  rw [Int.toNat_natCast, List.getD_eq_getElem?_getD, List.getElem?_append_right (Nat.le_refl _), Nat.sub_self]
  rfl
theorem rd_mid (pre suf : List Int) (x : Int) : rd (pre ++ x :: suf) (pre.length : Int) = x := getD_mid 0 pre suf x
theorem rdOf_mid {α : Type} (d : α) (pre suf : List α) (x : α) : rdOf d (pre ++ x :: suf) (pre.length : Int) = x := getD_mid d pre suf x
theorem lt_mid {α : Type} (pre suf : List α) (x : α) : (pre.length : Int) < ((pre ++ x :: suf).length : Int) := by
  rw [List.length_append, List.length_cons]; omega
theorem up_mid {α : Type} (pre suf : List α) (x : α) (h : (pre ++ x :: suf).length ≤ 9223372036854775807) : wrap64 ((pre.length : Int) + 1) = ((pre ++ [x]).length : Int) := by
  rw [List.length_append, List.length_cons] at h
  rw [List.length_append, List.length_singleton]
  unfold wrap64
  omega
theorem snoc_mid {α : Type} (pre suf : List α) (x : α) : pre ++ x :: suf = (pre ++ [x]) ++ suf := by simp
theorem wfb {x : Int} (h : (Lit.int .i64 x).wf = true) : -9223372036854775808 ≤ x ∧ x ≤ 9223372036854775807 := by
  simp [Lit.wf, IntKind.min, IntKind.max, IntKind.bits, IntKind.signed] at h
  omega
theorem all_wfb {l : List Int} (h : ∀ x ∈ l, (Lit.int .i64 x).wf = true) : ∀ x ∈ l, -9223372036854775808 ≤ x ∧ x ≤ 9223372036854775807 := fun x hx => wfb (h x hx)
theorem wrap_id {x : Int} (h0 : -9223372036854775808 ≤ x) (h1 : x ≤ 9223372036854775807) : wrap64 x = x := by unfold wrap64; omega

/-! slices of ints -/
/-- All numbers lie between two. -/
def allIn (l : List Int) (lo hi : Int) : Bool := l.all fun n => decide (lo ≤ n) && decide (n ≤ hi)
theorem allIn_iff {l : List Int} {lo hi : Int} : allIn l lo hi = true ↔ ∀ x ∈ l, lo ≤ x ∧ x ≤ hi := by
  unfold allIn
  rw [List.all_eq_true]
  simp
/-- Where a number first stands, -1 if nowhere. -/
def idxI (l : List Int) (n : Int) : Int := match l.findIdx? (fun x => x == n) with
  | some i => (i : Int)
  | none => -1
theorem idxI_nil (n : Int) : idxI [] n = -1 := rfl
theorem idxI_cons (x : Int) (l : List Int) (n : Int) : idxI (x :: l) n = if x = n then 0 else if idxI l n = -1 then -1 else idxI l n + 1 := by
  unfold idxI
  rw [List.findIdx?_cons]
  by_cases c : x = n
  · simp [c]
  · simp only [beq_iff_eq, c, if_false]
    cases h : l.findIdx? fun x => x == n with
    | none => simp
    | some i =>
      have : ¬ ((i : Int) = -1) := by omega
      simp [this]
theorem idxI_ge (l : List Int) (n : Int) : -1 ≤ idxI l n := by
  unfold idxI
  split <;> omega
theorem idxI_mem (l : List Int) (n : Int) : decide (idxI l n ≥ 0) = decide (n ∈ l) := by
  induction l with
  | nil => rfl
  | cons x l ih =>
    rw [idxI_cons]
    have hg := idxI_ge l n
    by_cases c : x = n
    · simp [c]
    · rw [if_neg c]
      rw [decide_eq_decide] at ih ⊢
      rw [List.mem_cons]
      split
      · have : ¬ n ∈ l := fun h => by have := ih.2 h; omega
        simp [Ne.symm c, this]
      · have : n ∈ l := ih.1 (by omega)
        simp [this]
        omega
/-- The sum, as Go's ints tell it. -/
def sumFrom (s : Int) : List Int → Int
  | [] => s
  | x :: l => sumFrom (wrap64 (s + x)) l

theorem ev_toIntS_l (l : List Int) (hn : l.length ≤ 35184372088832) : ∀ (suf pre : List Int), l = pre ++ suf → ∀ (z : List Int), z.length = suf.length → Ev (fun k => laws_toIntS.l0 k l (pre ++ z) (pre.length : Int)) l
  | [], pre, e, z, hz => by
    subst e
    have : z = [] := List.length_eq_zero_iff.1 hz
    subst this
    refine Ev.round (f := fun _ => some (pre ++ [])) (fun k => ?_) (Ev.now _)
    simp only [laws_toIntS.l0]
    rw [if_neg (by simp)]
  | x :: suf, pre, e, [], hz => by simp at hz
  | x :: suf, pre, e, y :: z, hz => by
    subst e
    have ih := ev_toIntS_l (pre ++ x :: suf) hn suf (pre ++ [x]) (snoc_mid _ _ _) z (by simpa using hz)
    refine Ev.round (fun k => ?_) ih
    simp only [laws_toIntS.l0]
    rw [if_pos (lt_mid _ _ _), if_pos (by omega), if_pos (lt_mid _ _ _), rd_mid, up_mid pre suf x (by omega)]
    congr 1
    rw [Int.toNat_natCast, List.set_append_right _ _ (Nat.le_refl _), Nat.sub_self, List.set_cons_zero]
    simp
theorem ev_toIntS (l : List Int) (hn : l.length ≤ 35184372088832) : Ev (fun k => laws_toIntS.f k l) l := by
  have h := ev_toIntS_l l hn l [] rfl (List.replicate l.length 0) (by simp)
  refine Ev.eqv (fun k => ?_) h
  unfold laws_toIntS.f
  rw [if_pos (by omega), Int.toNat_natCast, if_pos hn]
  rfl

theorem ev_eqIntS_l (a b : List Int) (hab : a.length = b.length) (hn : a.length ≤ 9223372036854775807) : ∀ (sa pa sb pb : List Int), a = pa ++ sa → b = pb ++ sb → pa.length = pb.length → Ev (fun k => laws_eqIntS.l0 k a b (pa.length : Int)) (decide (sa = sb))
  | [], pa, sb, pb, ea, eb, hp => by
    subst ea
    refine Ev.round (f := fun _ => some true) (fun k => ?_) (Ev.cast (Ev.now _) ?_)
    · simp only [laws_eqIntS.l0]
      rw [if_neg (by simp)]
    · have : sb = [] := by
        rw [eb] at hab
        simp at hab
        exact List.length_eq_zero_iff.1 (by omega)
      rw [this]; rfl
  | x :: sa, pa, [], pb, ea, eb, hp => by
    rw [ea, eb] at hab
    simp at hab
    omega
  | x :: sa, pa, y :: sb, pb, ea, eb, hp => by
    subst ea
    subst eb
    have h1 : ((pa.length : Nat) : Int) = (pb.length : Int) := by omega
    by_cases e : x = y
    · subst e
      have ih := ev_eqIntS_l (pa ++ x :: sa) (pb ++ x :: sb) hab hn sa (pa ++ [x]) sb (pb ++ [x]) (snoc_mid _ _ _) (snoc_mid _ _ _) (by simp [hp])
      refine Ev.round (fun k => ?_) (Ev.cast ih (by simp))
      simp only [laws_eqIntS.l0]
      rw [if_pos (lt_mid _ _ _), if_pos (by omega), if_pos (by rw [h1]; exact lt_mid _ _ _), rd_mid, h1, rd_mid, if_pos rfl, ← h1, up_mid _ _ _ hn]
    · refine Ev.round (f := fun _ => some false) (fun k => ?_) (Ev.cast (Ev.now _) (by simp [e]))
      simp only [laws_eqIntS.l0]
      rw [if_pos (lt_mid _ _ _), if_pos (by omega), if_pos (by rw [h1]; exact lt_mid _ _ _), rd_mid, h1, rd_mid, if_neg e]
theorem ev_eqIntS (a b : List Int) (hn : a.length ≤ 9223372036854775807) : Ev (fun k => laws_eqIntS.f k a b) (decide (a = b)) := by
  unfold laws_eqIntS.f
  by_cases h : a.length = b.length
  · exact Ev.ite_pos (by omega) (ev_eqIntS_l a b h hn a [] b [] rfl rfl rfl)
  · refine Ev.ite_neg (by omega) (Ev.cast (Ev.now _) ?_)
    rw [decide_eq_false]
    rintro rfl
    exact h rfl

theorem in_eq (a lo hi : Int) : spec_l1In.f a lo hi = some (decide (lo ≤ a) && decide (a ≤ hi)) := by
  unfold spec_l1In.f
  by_cases h : a ≥ lo
  · rw [if_pos h]; simp [h]
  · rw [if_neg h]; simp [h]

theorem within_eq (a lo hi : Int) : impl_within.f a lo hi = some (decide (lo ≤ a) && decide (a ≤ hi)) := by
  unfold impl_within.f
  by_cases h : a ≥ lo
  · rw [if_pos h]; simp [h]
  · rw [if_neg h]; simp [h]

theorem ev_l1All_l (l : List Int) (lo hi : Int) (hn : l.length ≤ 9223372036854775807) : ∀ (suf pre : List Int), l = pre ++ suf → Ev (fun k => spec_l1All.l0 k lo hi l (l.length : Int) (pre.length : Int)) (allIn suf lo hi)
  | [], pre, e => by
    subst e
    refine Ev.round (f := fun _ => some true) (fun k => ?_) (Ev.now _)
    simp only [spec_l1All.l0]
    rw [if_neg (by simp)]
  | x :: suf, pre, e => by
    subst e
    by_cases c : (decide (lo ≤ x) && decide (x ≤ hi)) = true
    · have ih := ev_l1All_l (pre ++ x :: suf) lo hi hn suf (pre ++ [x]) (snoc_mid _ _ _)
      refine Ev.round (fun k => ?_) (Ev.cast ih (by unfold allIn; rw [List.all_cons, c, Bool.true_and]))
      simp only [spec_l1All.l0]
      rw [if_pos (lt_mid _ _ _), if_pos (by omega), if_pos (lt_mid _ _ _), rd_mid, in_eq, Option.bind_some, if_pos c, up_mid _ _ _ hn]
    · refine Ev.round (f := fun _ => some false) (fun k => ?_) (Ev.cast (Ev.now _) (by unfold allIn; rw [List.all_cons, Bool.eq_false_iff.2 c, Bool.false_and]))
      simp only [spec_l1All.l0]
      rw [if_pos (lt_mid _ _ _), if_pos (by omega), if_pos (lt_mid _ _ _), rd_mid, in_eq, Option.bind_some, if_neg c]
theorem ev_l1All (l : List Int) (lo hi : Int) (hn : l.length ≤ 9223372036854775807) : Ev (fun k => spec_l1All.f k l lo hi) (allIn l lo hi) := ev_l1All_l l lo hi hn l [] rfl

theorem allWithin_eq (l : List Int) (lo hi : Int) : impl_allWithin.f l lo hi = some (allIn l lo hi) := rfl

theorem ev_l1Has_l (l : List Int) (n : Int) (hn : l.length ≤ 9223372036854775807) : ∀ (suf pre : List Int), l = pre ++ suf → Ev (fun k => spec_l1Has.l0 k n l (l.length : Int) (pre.length : Int)) (decide (n ∈ suf))
  | [], pre, e => by
    subst e
    refine Ev.round (f := fun _ => some false) (fun k => ?_) (Ev.cast (Ev.now _) (by simp))
    simp only [spec_l1Has.l0]
    rw [if_neg (by simp)]
  | x :: suf, pre, e => by
    subst e
    by_cases c : x = n
    · refine Ev.round (f := fun _ => some true) (fun k => ?_) (Ev.cast (Ev.now _) (by simp [c]))
      simp only [spec_l1Has.l0]
      rw [if_pos (lt_mid _ _ _), if_pos (by omega), if_pos (lt_mid _ _ _), rd_mid, if_pos c]
    · have ih := ev_l1Has_l (pre ++ x :: suf) n hn suf (pre ++ [x]) (snoc_mid _ _ _)
      refine Ev.round (fun k => ?_) (Ev.cast ih (by simp [Ne.symm c]))
      simp only [spec_l1Has.l0]
      rw [if_pos (lt_mid _ _ _), if_pos (by omega), if_pos (lt_mid _ _ _), rd_mid, if_neg c, up_mid _ _ _ hn]
theorem ev_l1Has (l : List Int) (n : Int) (hn : l.length ≤ 9223372036854775807) : Ev (fun k => spec_l1Has.f k l n) (decide (n ∈ l)) := ev_l1Has_l l n hn l [] rfl

theorem ev_Index_l (l : List Int) (n : Int) (hn : l.length ≤ 9223372036854775807) : ∀ (suf pre : List Int), l = pre ++ suf → Ev (fun k => slices_Index_int_int.l0 k l n (l.length : Int) (pre.length : Int)) (if idxI suf n = -1 then -1 else (pre.length : Int) + idxI suf n)
  | [], pre, e => by
    subst e
    refine Ev.round (f := fun _ => some (-1)) (fun k => ?_) (Ev.cast (Ev.now _) (by rw [idxI_nil, if_pos rfl]))
    simp only [slices_Index_int_int.l0]
    rw [if_neg (by simp)]
  | x :: suf, pre, e => by
    subst e
    by_cases c : x = n
    · refine Ev.round (f := fun _ => some (pre.length : Int)) (fun k => ?_) (Ev.cast (Ev.now _) (by rw [idxI_cons, if_pos c, if_neg (by omega)]; omega))
      simp only [slices_Index_int_int.l0]
      rw [if_pos (lt_mid _ _ _), if_pos (by omega), if_pos (lt_mid _ _ _), rd_mid, if_pos c.symm]
    · have ih := ev_Index_l (pre ++ x :: suf) n hn suf (pre ++ [x]) (snoc_mid _ _ _)
      have hg := idxI_ge suf n
      refine Ev.round (fun k => ?_) (Ev.cast ih (by rw [idxI_cons, if_neg c, List.length_append, List.length_singleton]; by_cases e : idxI suf n = -1 <;> simp [e]; omega))
      simp only [slices_Index_int_int.l0]
      rw [if_pos (lt_mid _ _ _), if_pos (by omega), if_pos (lt_mid _ _ _), rd_mid, if_neg (Ne.symm c), up_mid _ _ _ hn]
theorem ev_Index (l : List Int) (n : Int) (hn : l.length ≤ 9223372036854775807) : Ev (fun k => slices_Index_int_int.f k l n) (idxI l n) :=
  Ev.cast (ev_Index_l l n hn l [] rfl) (by have := idxI_ge l n; split <;> simp_all)

theorem ev_Contains (l : List Int) (n : Int) (hn : l.length ≤ 9223372036854775807) : Ev (fun k => slices_Contains_int_int.f k l n) (decide (n ∈ l)) := by
  unfold slices_Contains_int_int.f
  exact Ev.bind (ev_Index l n hn) (Ev.cast (Ev.now _) (idxI_mem l n))

/-! marks in slices of ints -/

/-- n numbers from a on. -/
def upFrom (a : Int) : Nat → List Int
  | 0 => []
  | n + 1 => a :: upFrom (a + 1) n
theorem upFrom_length : ∀ (n : Nat) (a : Int), (upFrom a n).length = n
  | 0, _ => rfl
  | n + 1, a => by rw [upFrom, List.length_cons, upFrom_length n]
theorem ev_markIntS_l : ∀ (suf pre : List Int) (a : Int), 0 ≤ a → a + suf.length ≤ 4611686018427387904 → pre.length + suf.length ≤ 4611686018427387904 → Ev (fun k => laws_markIntS.l0 k (pre ++ suf) a (pre.length : Int)) (a + suf.length, pre ++ upFrom a suf.length)
  | [], pre, a, h0, h1, h2 => by
    refine Ev.round (f := fun _ => some (a, pre ++ [])) (fun k => ?_) (Ev.cast (Ev.now _) (by simp [upFrom]))
    simp only [laws_markIntS.l0]
    rw [if_neg (by simp)]
  | x :: suf, pre, a, h0, h1, h2 => by
    rw [List.length_cons] at h1 h2
    have ih := ev_markIntS_l suf (pre ++ [a]) (a + 1) (by omega) (by omega) (by simp; omega)
    refine Ev.round (fun k => ?_) (Ev.cast ih (by rw [List.length_cons, upFrom]; simp; omega))
    simp only [laws_markIntS.l0]
    have hw : wrap64 (a + 1) = a + 1 := by unfold wrap64; omega
    have hw2 : wrap64 ((pre.length : Int) + 1) = ((pre ++ [a]).length : Int) := by unfold wrap64; simp; omega
    rw [if_pos (lt_mid _ _ _), if_pos (by omega), hw, hw2, Int.toNat_natCast, List.set_append_right _ _ (Nat.le_refl _), Nat.sub_self, List.set_cons_zero]
    simp
theorem ev_markIntS (l : List Int) (a : Int) (h0 : 0 ≤ a) (h1 : a + l.length ≤ 4611686018427387904) : Ev (fun k => laws_markIntS.f k l a) (a + l.length, upFrom a l.length) := ev_markIntS_l l [] a h0 h1 (by simp; omega)

theorem ev_heldIntS_l : ∀ (n : Nat) (pre : List Int) (a : Int), 0 ≤ a → a + n ≤ 4611686018427387904 → pre.length + n ≤ 4611686018427387904 → Ev (fun k => laws_heldIntS.l0 k (pre ++ upFrom a n) a (pre.length : Int)) (a + n)
  | 0, pre, a, h0, h1, h2 => by
    refine Ev.round (f := fun _ => some a) (fun k => ?_) (Ev.cast (Ev.now _) (by simp))
    simp only [laws_heldIntS.l0]
    rw [if_neg (by simp [upFrom])]
  | n + 1, pre, a, h0, h1, h2 => by
    have ih := ev_heldIntS_l n (pre ++ [a]) (a + 1) (by omega) (by omega) (by simp; omega)
    refine Ev.round (fun k => ?_) (Ev.cast ih (by omega))
    rw [upFrom]
    simp only [laws_heldIntS.l0]
    have hw : wrap64 (a + 1) = a + 1 := by unfold wrap64; omega
    have hw2 : wrap64 ((pre.length : Int) + 1) = ((pre ++ [a]).length : Int) := by unfold wrap64; simp; omega
    rw [if_pos (lt_mid _ _ _), if_pos (by omega), rd_mid, if_pos rfl, hw, hw2]
    simp
theorem ev_heldIntS (a : Int) (n : Nat) (h0 : 0 ≤ a) (h1 : a + n ≤ 4611686018427387904) : Ev (fun k => laws_heldIntS.f k (upFrom a n) a) (a + n) := ev_heldIntS_l n [] a h0 h1 (by simp; omega)

/-! spots: a place's good, 0 for none -/

/-- From a place on no good stands where one stood before: pre is what lies ahead. -/
def noTwice : List Int → List Int → Bool
  | _, [] => true
  | pre, x :: suf => (decide (x = 0) || !decide (x ∈ pre)) && noTwice (pre ++ [x]) suf
def goodSpots (l : List Int) : Bool := (decide (2 ≤ (l.length : Int)) && decide ((l.length : Int) ≤ 9)) && (decide ((0 : Int) ∈ l) && (allIn l 0 20 && noTwice [] l))
theorem take_mid {α : Type} (pre suf : List α) : (pre ++ suf).take (pre.length : Int).toNat = pre := by
  rw [Int.toNat_natCast, List.take_left]
theorem ev_GoodSpots_l (l : List Int) (hn : l.length ≤ 9223372036854775807) (h0 : ∀ x ∈ l, 0 ≤ x) : ∀ (suf pre : List Int), l = pre ++ suf → Ev (fun k => spec_GoodSpots.l0 k l l (l.length : Int) (pre.length : Int)) (noTwice pre suf)
  | [], pre, e => by
    subst e
    refine Ev.round (f := fun _ => some true) (fun k => ?_) (Ev.now _)
    simp only [spec_GoodSpots.l0]
    rw [if_neg (by simp)]
  | x :: suf, pre, e => by
    subst e
    have ih := ev_GoodSpots_l (pre ++ x :: suf) hn h0 suf (pre ++ [x]) (snoc_mid _ _ _)
    have hx := h0 x (by simp)
    have hg := lt_mid pre suf x
    by_cases c : x = 0
    · refine Ev.round (fun k => ?_) (Ev.cast ih (by simp [noTwice, c]))
      simp only [spec_GoodSpots.l0]
      rw [if_pos hg, if_pos (by omega), if_pos hg, rd_mid, if_neg (by omega), up_mid _ _ _ hn]
    · by_cases m : x ∈ pre
      · refine Ev.round (fun k => ?_) (Ev.bind (ev_l1Has pre x (by simp at hn; omega)) (f := fun k t => if t = true then some false else spec_GoodSpots.l0 k (pre ++ x :: suf) (pre ++ x :: suf) ((pre ++ x :: suf).length : Int) (wrap64 ((pre.length : Int) + 1))) ?_)
        · simp only [spec_GoodSpots.l0]
          rw [if_pos hg, if_pos (by omega), if_pos hg, rd_mid, if_pos (by omega), if_pos (by omega), take_mid]
        · exact Ev.ite_pos (by simpa using m) (Ev.cast (Ev.now _) (by simp [noTwice, c, m]))
      · refine Ev.round (fun k => ?_) (Ev.bind (ev_l1Has pre x (by simp at hn; omega)) (f := fun k t => if t = true then some false else spec_GoodSpots.l0 k (pre ++ x :: suf) (pre ++ x :: suf) ((pre ++ x :: suf).length : Int) (wrap64 ((pre.length : Int) + 1))) ?_)
        · simp only [spec_GoodSpots.l0]
          rw [if_pos hg, if_pos (by omega), if_pos hg, rd_mid, if_pos (by omega), if_pos (by omega), take_mid]
        · refine Ev.ite_neg (by simpa using m) ?_
          rw [up_mid _ _ _ hn]
          exact Ev.cast ih (by simp [noTwice, c, m])
theorem ev_GoodSpots (l : List Int) (hn : l.length ≤ 9223372036854775807) : Ev (fun k => spec_GoodSpots.f k l) (goodSpots l) := by
  unfold spec_GoodSpots.f
  refine Ev.bindc (in_eq _ _ _) ?_
  by_cases h1 : (decide (2 ≤ (l.length : Int)) && decide ((l.length : Int) ≤ 9)) = true
  · refine Ev.ite_pos h1 (Ev.bind (ev_l1Has l 0 hn) ?_)
    by_cases h2 : (0 : Int) ∈ l
    · refine Ev.ite_pos (by simpa using h2) (Ev.bind (ev_l1All l 0 20 hn) ?_)
      refine Ev.round (fun k => by simp only [spec_GoodSpots.j0]; rfl) ?_
      cases h3 : allIn l 0 20 with
      | true =>
        refine Ev.ite_neg (by simp) (Ev.cast (ev_GoodSpots_l l hn (fun x hx => (allIn_iff.1 h3 x hx).1) l [] rfl) ?_)
        simp only [goodSpots, h1, h2, h3]
        simp
      | false =>
        refine Ev.ite_pos (by simp) (Ev.cast (Ev.now _) ?_)
        simp [goodSpots, h3]
    · refine Ev.ite_neg (by simpa using h2) ?_
      refine Ev.round (fun k => by simp only [spec_GoodSpots.j0]; rfl) ?_
      refine Ev.ite_pos (by trivial) (Ev.cast (Ev.now _) ?_)
      simp [goodSpots, h2]
  · refine Ev.ite_neg h1 ?_
    refine Ev.round (fun k => by simp only [spec_GoodSpots.j0]; rfl) ?_
    refine Ev.ite_pos (by trivial) (Ev.cast (Ev.now _) ?_)
    unfold goodSpots
    rw [Bool.eq_false_iff.2 h1]
    rfl

theorem noTwice_false {l : List Int} : ∀ {pre : List Int}, noTwice pre l = false → True := fun _ => trivial
theorem ev_implGoodSpots_l (l : List Int) (hn : l.length ≤ 9223372036854775807) : ∀ (suf pre : List Int), l = pre ++ suf →
    Ev (fun k => impl_GoodSpots.l0 k l l (l.length : Int) (pre.length : Int)) (noTwice pre suf && ((decide (2 ≤ (l.length : Int)) && decide ((l.length : Int) ≤ 9)) && (allIn l 0 20 && decide ((0 : Int) ∈ l))))
  | [], pre, e => by
    refine Ev.round (f := fun k => (impl_within.f (l.length : Int) 2 9).bind fun t => if t = true then ((impl_allWithin.f l 0 20).bind fun t => if t = true then ((slices_Contains_int_int.f k l 0).bind fun t => some t) else some false) else some false) (fun k => ?_) ?_
    · simp only [impl_GoodSpots.l0]
      rw [if_neg (by subst e; simp)]
    · refine Ev.bindc (within_eq _ _ _) ?_
      by_cases h1 : (decide (2 ≤ (l.length : Int)) && decide ((l.length : Int) ≤ 9)) = true
      · refine Ev.ite_pos h1 (Ev.bindc (allWithin_eq _ _ _) ?_)
        cases h3 : allIn l 0 20 with
        | true => exact Ev.ite_pos rfl (Ev.bind (ev_Contains l 0 hn) (Ev.cast (Ev.now _) (by simp [noTwice, h1])))
        | false => exact Ev.ite_neg (by simp) (Ev.cast (Ev.now _) (by simp))
      · refine Ev.ite_neg h1 (Ev.cast (Ev.now _) ?_)
        rw [Bool.eq_false_iff.2 h1]
        simp
  | x :: suf, pre, e => by
    subst e
    have ih := ev_implGoodSpots_l (pre ++ x :: suf) hn suf (pre ++ [x]) (snoc_mid _ _ _)
    have hg := lt_mid pre suf x
    by_cases c : x = 0
    · refine Ev.round (fun k => ?_) (Ev.cast ih (by simp [noTwice, c]))
      simp only [impl_GoodSpots.l0]
      rw [if_pos hg, if_pos (by omega), if_pos hg, rd_mid, if_pos c, up_mid _ _ _ hn]
    · refine Ev.round (fun k => ?_) (Ev.bind (ev_Contains pre x (by simp at hn; omega)) (f := fun k t => if t = true then some false else impl_GoodSpots.l0 k (pre ++ x :: suf) (pre ++ x :: suf) ((pre ++ x :: suf).length : Int) (wrap64 ((pre.length : Int) + 1))) ?_)
      · simp only [impl_GoodSpots.l0]
        rw [if_pos hg, if_pos (by omega), if_pos hg, rd_mid, if_neg c, if_pos (by omega), take_mid]
      · by_cases m : x ∈ pre
        · exact Ev.ite_pos (by simpa using m) (Ev.cast (Ev.now _) (by simp [noTwice, c, m]))
        · refine Ev.ite_neg (by simpa using m) ?_
          rw [up_mid _ _ _ hn]
          exact Ev.cast ih (by simp [noTwice, c, m])
theorem ev_implGoodSpots (l : List Int) (hn : l.length ≤ 9223372036854775807) : Ev (fun k => impl_GoodSpots.f k l) (goodSpots l) := by
  refine Ev.cast (ev_implGoodSpots_l l hn l [] rfl) ?_
  unfold goodSpots
  generalize (decide (2 ≤ (l.length : Int)) && decide ((l.length : Int) ≤ 9)) = a
  generalize decide ((0 : Int) ∈ l) = b
  generalize allIn l 0 20 = c
  generalize noTwice [] l = d
  cases a <;> cases b <;> cases c <;> cases d <;> rfl

/-! moves of goods between places -/

def doM (l : List Int) (a b : Int) : Option (List Int) := if ((0 ≤ a ∧ a < (l.length : Int)) ∧ (0 ≤ b ∧ b < (l.length : Int))) ∧ ¬ rd l a = 0 ∧ rd l b = 0 then some ((l.set a.toNat 0).set b.toNat (rd l a)) else none
theorem doM_length {l l' : List Int} {a b : Int} (h : doM l a b = some l') : l'.length = l.length := by
  unfold doM at h
  split at h
  · obtain rfl := Option.some.inj h
    simp
  · cases h
def doZ (l : List Int) (a b : Int) : Bool × List Int := match doM l a b with
  | some l' => (true, l')
  | none => (false, l)
theorem l10Do_eq (l : List Int) (a b : Int) : spec_l10Do.f l a b = some (doZ l a b) := by
  unfold spec_l10Do.f doZ doM
  by_cases c : ((0 ≤ a ∧ a < (l.length : Int)) ∧ (0 ≤ b ∧ b < (l.length : Int))) ∧ ¬ rd l a = 0 ∧ rd l b = 0
  · rw [if_pos c]
    obtain ⟨⟨⟨h1, h2⟩, h3, h4⟩, h5, h6⟩ := c
    have hne : a.toNat ≠ b.toNat := fun e => h5 (by rw [show a = b by omega]; exact h6)
    rw [if_neg (by omega), if_neg (by omega), if_neg (by omega), if_neg (by omega), if_pos h1, if_pos h2, if_neg h5, if_pos h3, if_pos h4, if_pos h6, List.set_comm _ _ hne.symm]
  · rw [if_neg c]
    by_cases h1 : a < 0
    · rw [if_pos h1]
    rw [if_neg h1]
    by_cases h2 : a ≥ (l.length : Int)
    · rw [if_pos h2]
    rw [if_neg h2]
    by_cases h3 : b < 0
    · rw [if_pos h3]
    rw [if_neg h3]
    by_cases h4 : b ≥ (l.length : Int)
    · rw [if_pos h4]
    rw [if_neg h4, if_pos (by omega), if_pos (by omega)]
    by_cases h5 : rd l a = 0
    · rw [if_pos h5]
    rw [if_neg h5, if_pos (by omega), if_pos (by omega)]
    by_cases h6 : rd l b = 0
    · exact absurd ⟨⟨⟨by omega, by omega⟩, by omega, by omega⟩, h5, h6⟩ c
    rw [if_neg h6]

def movedZ (l : List Int) (a b : Int) : List Int × Bool := match doM l a b with
  | some l' => (l', true)
  | none => ([], false)
theorem moved_eq (l : List Int) (a b : Int) (hl : l.length < 17592186044416) : impl_moved.f l a b = some (movedZ l a b) := by
  unfold impl_moved.f movedZ doM
  rw [if_pos (by first | exact hl | omega)]
  split <;> rfl

def doAll : List Int → List S39 → Option (List Int)
  | l, [] => some l
  | l, m :: ms => match doM l m.f0 m.f1 with
    | some l' => doAll l' ms
    | none => none
def allZ (l : List Int) (ms : List S39) : List Int × Bool := match doAll l ms with
  | some l' => (l', true)
  | none => ([], false)
theorem allZ_length (l : List Int) (ms : List S39) : (allZ l ms).1.length ≤ l.length := by
  unfold allZ
  have : ∀ (ms : List S39) (l l' : List Int), doAll l ms = some l' → l'.length = l.length := by
    intro ms
    induction ms with
    | nil => intro l l' h; obtain rfl := Option.some.inj h; rfl
    | cons m ms ih =>
      intro l l' h
      rw [doAll] at h
      cases hd : doM l m.f0 m.f1 with
      | none => rw [hd] at h; cases h
      | some l2 => rw [hd] at h; rw [ih l2 l' h, doM_length hd]
  cases h : doAll l ms with
  | none => simp
  | some l' => rw [this ms l l' h]; exact Nat.le_refl _
theorem rdM_mid (pre suf : List S39) (x : S39) : rd_T39 (pre ++ x :: suf) (pre.length : Int) = x := getD_mid z39 pre suf x
theorem ev_specDo_l (ms : List S39) (hn : ms.length ≤ 9223372036854775807) : ∀ (suf pre : List S39) (l : List Int), ms = pre ++ suf → Ev (fun k => spec_DoMoves.l0 k l ms (ms.length : Int) (pre.length : Int)) (allZ l suf)
  | [], pre, l, e => by
    refine Ev.round (f := fun _ => some (l, true)) (fun k => ?_) (Ev.now _)
    simp only [spec_DoMoves.l0]
    rw [if_neg (by rw [e]; simp)]
  | x :: suf, pre, l, e => by
    have h1 : (pre.length : Int) < (ms.length : Int) := by rw [e]; exact lt_mid _ _ _
    have h2 : rd_T39 ms (pre.length : Int) = x := by rw [e]; exact rdM_mid _ _ _
    have h3 : wrap64 ((pre.length : Int) + 1) = ((pre ++ [x]).length : Int) := by
      have : pre.length + 1 ≤ ms.length := by omega
      rw [List.length_append, List.length_singleton]; unfold wrap64; omega
    cases hd : doM l x.f0 x.f1 with
    | none =>
      refine Ev.round (f := fun _ => some ([], false)) (fun k => ?_) (Ev.cast (Ev.now _) (by unfold allZ; rw [doAll, hd]))
      simp only [spec_DoMoves.l0]
      rw [if_pos h1, if_pos (by omega), if_pos h1, h2, l10Do_eq, Option.bind_some]
      unfold doZ
      rw [hd]
      rfl
    | some l' =>
      have ih := ev_specDo_l ms hn suf (pre ++ [x]) l' (by rw [e]; simp)
      refine Ev.round (fun k => ?_) (Ev.cast ih (by unfold allZ; rw [doAll, hd]))
      simp only [spec_DoMoves.l0]
      rw [if_pos h1, if_pos (by omega), if_pos h1, h2, l10Do_eq, Option.bind_some, h3]
      unfold doZ
      rw [hd]
      rfl
def movesZ (l : List Int) (ms : List S39) : List Int × Bool := if goodSpots l = true ∧ ms.length ≤ 20 then allZ l ms else ([], false)
theorem goodSpots_length {l : List Int} (h : goodSpots l = true) : l.length ≤ 9 := by
  unfold goodSpots at h
  rw [Bool.and_eq_true, Bool.and_eq_true, decide_eq_true_eq, decide_eq_true_eq] at h
  omega
theorem movesZ_length (l : List Int) (ms : List S39) : (movesZ l ms).1.length ≤ 9 := by
  unfold movesZ
  split
  case isTrue h => exact Nat.le_trans (allZ_length l ms) (goodSpots_length h.1)
  case isFalse h => simp
theorem ev_specDoMoves (l : List Int) (ms : List S39) (hl : l.length ≤ 9223372036854775807) (hn : ms.length ≤ 9223372036854775807) : Ev (fun k => spec_DoMoves.f k l ms) (movesZ l ms) := by
  unfold spec_DoMoves.f movesZ
  refine Ev.bind (ev_GoodSpots l hl) ?_
  by_cases c : goodSpots l = true
  · refine Ev.ite_pos c ?_
    by_cases d : ms.length ≤ 20
    · rw [if_pos ⟨c, d⟩]
      have hg := goodSpots_length c
      refine Ev.round (fun k => ?_) (ev_specDo_l ms hn ms [] l rfl)
      simp only [spec_DoMoves.j0]
      rw [if_neg (by simp; omega), Option.bind_some, if_pos (by simp; omega)]
      rfl
    · rw [if_neg (fun h => d h.2)]
      refine Ev.round (f := fun _ => some ([], false)) (fun k => ?_) (Ev.now _)
      simp only [spec_DoMoves.j0]
      rw [if_pos (by simp; omega)]
  · rw [if_neg (fun h => c h.1)]
    refine Ev.ite_neg c ?_
    refine Ev.round (f := fun _ => some ([], false)) (fun k => ?_) (Ev.now _)
    simp [spec_DoMoves.j0]

theorem ev_implDo_l (ms : List S39) (hn : ms.length ≤ 9223372036854775807) : ∀ (suf pre : List S39) (l : List Int), l.length ≤ 9 → ms = pre ++ suf → Ev (fun k => impl_DoMoves.l0 k l ms (ms.length : Int) (pre.length : Int)) (allZ l suf)
  | [], pre, l, hl, e => by
    refine Ev.round (f := fun _ => some (l, true)) (fun k => ?_) (Ev.now _)
    simp only [impl_DoMoves.l0]
    rw [if_neg (by rw [e]; simp)]
  | x :: suf, pre, l, hl, e => by
    have h1 : (pre.length : Int) < (ms.length : Int) := by rw [e]; exact lt_mid _ _ _
    have h2 : rd_T39 ms (pre.length : Int) = x := by rw [e]; exact rdM_mid _ _ _
    have h3 : wrap64 ((pre.length : Int) + 1) = ((pre ++ [x]).length : Int) := by
      have : pre.length + 1 ≤ ms.length := by omega
      rw [List.length_append, List.length_singleton]; unfold wrap64; omega
    cases hd : doM l x.f0 x.f1 with
    | none =>
      refine Ev.round (f := fun _ => some ([], false)) (fun k => ?_) (Ev.cast (Ev.now _) (by unfold allZ; rw [doAll, hd]))
      simp only [impl_DoMoves.l0]
      rw [if_pos h1, if_pos (by omega), if_pos h1, h2, moved_eq _ _ _ (by omega), Option.bind_some]
      unfold movedZ
      rw [hd]
      rfl
    | some l' =>
      have ih := ev_implDo_l ms hn suf (pre ++ [x]) l' (by rw [doM_length hd]; exact hl) (by rw [e]; simp)
      refine Ev.round (fun k => ?_) (Ev.cast ih (by unfold allZ; rw [doAll, hd]))
      simp only [impl_DoMoves.l0]
      rw [if_pos h1, if_pos (by omega), if_pos h1, h2, moved_eq _ _ _ (by omega), Option.bind_some, h3]
      unfold movedZ
      rw [hd]
      rfl
theorem ev_implDoMoves (l : List Int) (ms : List S39) (hl : l.length ≤ 9223372036854775807) (hn : ms.length ≤ 9223372036854775807) : Ev (fun k => impl_DoMoves.f k l ms) (movesZ l ms) := by
  unfold impl_DoMoves.f movesZ
  refine Ev.bind (ev_implGoodSpots l hl) ?_
  by_cases c : goodSpots l = true
  · refine Ev.ite_pos c ?_
    by_cases d : ms.length ≤ 20
    · rw [if_pos ⟨c, d⟩]
      have hg := goodSpots_length c
      refine Ev.round (fun k => ?_) (ev_implDo_l ms hn ms [] l hg rfl)
      simp only [impl_DoMoves.j0]
      unfold slices_Clone_int_int.f
      rw [if_neg (by simp; omega), if_pos (by omega), Option.bind_some]
      rfl
    · rw [if_neg (fun h => d h.2)]
      refine Ev.round (f := fun _ => some ([], false)) (fun k => ?_) (Ev.now _)
      simp only [impl_DoMoves.j0]
      rw [if_pos (by simp; omega)]
  · rw [if_neg (fun h => c h.1)]
    refine Ev.ite_neg c ?_
    refine Ev.round (f := fun _ => some ([], false)) (fun k => ?_) (Ev.now _)
    simp [impl_DoMoves.j0]

def toM (x : S36) : S39 := ⟨x.f0, x.f1⟩
theorem rdW_mid (pre suf : List S36) (x : S36) : rd_T36 (pre ++ x :: suf) (pre.length : Int) = x := getD_mid z36 pre suf x
theorem ev_toMoveS_l (l : List S36) (hn : l.length ≤ 17592186044416) : ∀ (suf pre : List S36), l = pre ++ suf → ∀ (z : List S39), z.length = suf.length → Ev (fun k => laws_toMoveS.l0 k l (pre.map toM ++ z) (pre.length : Int)) (l.map toM)
  | [], pre, e, z, hz => by
    have : z = [] := List.length_eq_zero_iff.1 hz
    subst this
    refine Ev.round (f := fun _ => some (pre.map toM ++ [])) (fun k => ?_) (Ev.cast (Ev.now _) (by rw [e]; simp))
    simp only [laws_toMoveS.l0]
    rw [if_neg (by rw [e]; simp)]
  | x :: suf, pre, e, [], hz => by simp at hz
  | x :: suf, pre, e, y :: z, hz => by
    have ih := ev_toMoveS_l l hn suf (pre ++ [x]) (by rw [e]; simp) z (by simpa using hz)
    have h1 : (pre.length : Int) < (l.length : Int) := by rw [e]; exact lt_mid _ _ _
    have h2 : rd_T36 l (pre.length : Int) = x := by rw [e]; exact rdW_mid _ _ _
    have h3 : wrap64 ((pre.length : Int) + 1) = ((pre ++ [x]).length : Int) := by rw [List.length_append, List.length_singleton]; unfold wrap64; omega
    refine Ev.round (fun k => ?_) ih
    simp only [laws_toMoveS.l0]
    unfold laws_toMove.f
    rw [if_pos h1, if_pos (by omega), h2, Option.bind_some, if_pos (by simp; omega), h3]
    congr 1
    rw [Int.toNat_natCast, List.set_append_right _ _ (by simp)]
    simp [toM]
theorem ev_toMoveS (l : List S36) (hn : l.length ≤ 17592186044416) : Ev (fun k => laws_toMoveS.f k l) (l.map toM) := by
  refine Ev.eqv (fun k => ?_) (ev_toMoveS_l l hn l [] rfl (List.replicate l.length z39) (by simp))
  unfold laws_toMoveS.f
  rw [if_pos (by omega), Int.toNat_natCast, if_pos hn]
  rfl

theorem ev_eqMoveS_l (a : List S39) (hn : a.length ≤ 9223372036854775807) : ∀ (sa pa : List S39), a = pa ++ sa → Ev (fun k => laws_eqMoveS.l0 k a a (pa.length : Int)) true
  | [], pa, e => by
    refine Ev.round (f := fun _ => some true) (fun k => ?_) (Ev.now _)
    simp only [laws_eqMoveS.l0]
    rw [if_neg (by rw [e]; simp)]
  | x :: sa, pa, e => by
    have ih := ev_eqMoveS_l a hn sa (pa ++ [x]) (by rw [e]; simp)
    have h1 : (pa.length : Int) < (a.length : Int) := by rw [e]; exact lt_mid _ _ _
    have h3 : wrap64 ((pa.length : Int) + 1) = ((pa ++ [x]).length : Int) := by
      have : pa.length + 1 ≤ a.length := by omega
      rw [List.length_append, List.length_singleton]; unfold wrap64; omega
    refine Ev.round (fun k => ?_) ih
    simp only [laws_eqMoveS.l0]
    unfold laws_eqMove.f
    rw [if_pos h1, if_pos (by omega), if_pos h1, if_pos rfl, if_pos rfl, Option.bind_some, if_pos rfl, h3]
theorem ev_eqMoveS (a : List S39) (hn : a.length ≤ 9223372036854775807) : Ev (fun k => laws_eqMoveS.f k a a) true := by
  unfold laws_eqMoveS.f
  exact Ev.ite_pos rfl (ev_eqMoveS_l a hn a [] rfl)

theorem ev_markMoveS_l : ∀ (n : Nat) (l : List S39) (j : Nat) (a : Int), j + n = l.length → l.length ≤ 4611686018427387904 → 0 ≤ a → a + 2 * n ≤ 4611686018427387904 → ∃ l', Ev (fun k => laws_markMoveS.l0 k l a (j : Int)) (a + 2 * n, l')
  | 0, l, j, a, hj, hl, h0, h9 => by
    refine ⟨l, Ev.round (f := fun _ => some (a, l)) (fun k => ?_) (Ev.cast (Ev.now _) (by simp))⟩
    simp only [laws_markMoveS.l0]
    rw [if_neg (by omega)]
  | n + 1, l, j, a, hj, hl, h0, h9 => by
    have w1 : wrap64 (a + 1) = a + 1 := by unfold wrap64; omega
    have w2 : wrap64 (a + 1 + 1) = a + 2 := by unfold wrap64; omega
    have w3 : wrap64 ((j : Int) + 1) = ((j + 1 : Nat) : Int) := by unfold wrap64; omega
    obtain ⟨l', h⟩ := ev_markMoveS_l n ((l.set (j : Int).toNat (⟨a, (rd_T39 l (j : Int)).f1⟩ : S39)).set (j : Int).toNat (⟨(rd_T39 (l.set (j : Int).toNat (⟨a, (rd_T39 l (j : Int)).f1⟩ : S39)) (j : Int)).f0, a + 1⟩ : S39)) (j + 1) (a + 2) (by simp; omega) (by simpa using hl) (by omega) (by omega)
    refine ⟨l', Ev.round (fun k => ?_) (Ev.cast h (by congr 1; omega))⟩
    simp only [laws_markMoveS.l0]
    rw [if_pos (by omega), if_pos (by omega), Option.bind_some, w1, w2, w3]
theorem ev_markMoveS (l : List S39) (a : Int) (hl : l.length ≤ 1048576) (h0 : 0 ≤ a) (h9 : a ≤ 1073741824) : ∃ l', Ev (fun k => laws_markMoveS.f k l a) (a + 2 * l.length, l') := by
  obtain ⟨l', h⟩ := ev_markMoveS_l l.length l 0 a (by omega) (by omega) h0 (by omega)
  exact ⟨l', h⟩

end Go.Proofs.Ytccnpnlmihcmlaa.Pure
