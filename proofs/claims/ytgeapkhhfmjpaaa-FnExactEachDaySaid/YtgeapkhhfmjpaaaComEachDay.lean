import Derived.Test.YtgeapkhhfmjpaaaGLEachDay1
import Derived.Test.YtgeapkhhfmjpaaaGLEachDay2
import Derived.Test.YtgeapkhhfmjpaaaGLEachDay3
namespace Go.Proofs.Ytgeapkhhfmjpaaa.Pure
open Go.RowKit Go.Proofs.Ytgeapkhhfmjpaaa.GLEachDay Go.Proofs.YtgeapkhhfmjpaaaW.PrintWords Go.Proofs.YtgeapkhhfmjpaaaW.PrintLast Go.Proofs.YtgeapkhhfmjpaaaW.PrintMore Go.Proofs.YtgeapkhhfmjpaaaW.PrintOwn
set_option linter.unusedVariables false
set_option linter.unusedSimpArgs false
/-! rounds: what a loop over a list answers -/
theorem Ev.det {α : Type} {g : Nat → Option α} {r : α} (h : ∀ k, g k = some r) : Ev g r := ⟨0, fun k _ => h k⟩
theorem Ev.bind' {α β : Type} {g : Nat → Option α} {f : Nat → α → Option β} {a : α} {r : β} (h : Ev g a) (k : Ev (fun n => f n a) r) : Ev (fun n => (g n).bind (f n)) r := Ev.bind h k
theorem Ev.bindc {α β : Type} {g : Option α} {f : Nat → α → Option β} {a : α} {r : β} (h : g = some a) (k : Ev (fun n => f n a) r) : Ev (fun n => g.bind (f n)) r := by
  subst h
  exact k
/-- One round. -/
theorem Ev.round {α : Type} {g f : Nat → Option α} {r : α} (h : ∀ k, g (k + 1) = f k) (k : Ev f r) : Ev g r := Ev.step h k
theorem Ev.eqv {α : Type} {g f : Nat → Option α} {r : α} (h : ∀ k, g k = f k) (k : Ev f r) : Ev g r := Ev.congr h k
theorem Ev.cast {α : Type} {g : Nat → Option α} {r r' : α} (h : Ev g r) (e : r = r') : Ev g r' := e ▸ h
theorem Ev.ite_pos {α : Type} {c : Prop} [Decidable c] {g f : Nat → Option α} {r : α} (hc : c) (k : Ev g r) : Ev (fun n => if c then g n else f n) r := by
  refine Ev.eqv (fun n => ?_) k
  rw [if_pos hc]
theorem Ev.ite_neg {α : Type} {c : Prop} [Decidable c] {g f : Nat → Option α} {r : α} (hc : ¬ c) (k : Ev f r) : Ev (fun n => if c then g n else f n) r := by
  refine Ev.eqv (fun n => ?_) k
  rw [if_neg hc]
theorem getD_mid {α : Type} (d : α) (pre suf : List α) (x : α) : (pre ++ x :: suf).getD (pre.length : Int).toNat d = x := by
  rw [Int.toNat_natCast, List.getD_eq_getElem?_getD, List.getElem?_append_right (Nat.le_refl _), Nat.sub_self]
  rfl
theorem rd_mid (pre suf : List Int) (x : Int) : rd (pre ++ x :: suf) (pre.length : Int) = x := getD_mid 0 pre suf x
theorem rdOf_mid {α : Type} (d : α) (pre suf : List α) (x : α) : rdOf d (pre ++ x :: suf) (pre.length : Int) = x := getD_mid d pre suf x
theorem lt_mid {α : Type} (pre suf : List α) (x : α) : (pre.length : Int) < ((pre ++ x :: suf).length : Int) := by
  rw [List.length_append, List.length_cons]; omega
theorem up_mid {α : Type} (pre suf : List α) (x : α) (h : (pre ++ x :: suf).length ≤ 9223372036854775807) : wrap64 ((pre.length : Int) + 1) = ((pre ++ [x]).length : Int) := by
  rw [List.length_append, List.length_cons] at h
  rw [List.length_append, List.length_singleton]
  unfold wrap64
  omega
theorem snoc_mid {α : Type} (pre suf : List α) (x : α) : pre ++ x :: suf = (pre ++ [x]) ++ suf := by simp
theorem wfb {x : Int} (h : (Lit.int .i64 x).wf = true) : -9223372036854775808 ≤ x ∧ x ≤ 9223372036854775807 := by
  simp [Lit.wf, IntKind.min, IntKind.max, IntKind.bits, IntKind.signed] at h
  omega
theorem all_wfb {l : List Int} (h : ∀ x ∈ l, (Lit.int .i64 x).wf = true) : ∀ x ∈ l, -9223372036854775808 ≤ x ∧ x ≤ 9223372036854775807 := fun x hx => wfb (h x hx)
theorem wrap_id {x : Int} (h0 : -9223372036854775808 ≤ x) (h1 : x ≤ 9223372036854775807) : wrap64 x = x := by unfold wrap64; omega

/-! slices of ints -/
/-- All numbers lie between two. -/
def allIn (l : List Int) (lo hi : Int) : Bool := l.all fun n => decide (lo ≤ n) && decide (n ≤ hi)
theorem allIn_iff {l : List Int} {lo hi : Int} : allIn l lo hi = true ↔ ∀ x ∈ l, lo ≤ x ∧ x ≤ hi := by
  unfold allIn
  rw [List.all_eq_true]
  simp
/-- Where a number first stands, -1 if nowhere. -/
def idxI (l : List Int) (n : Int) : Int := match l.findIdx? (fun x => x == n) with
  | some i => (i : Int)
  | none => -1
theorem idxI_nil (n : Int) : idxI [] n = -1 := rfl
theorem idxI_cons (x : Int) (l : List Int) (n : Int) : idxI (x :: l) n = if x = n then 0 else if idxI l n = -1 then -1 else idxI l n + 1 := by
  unfold idxI
  rw [List.findIdx?_cons]
  by_cases c : x = n
  · simp [c]
  · simp only [beq_iff_eq, c, if_false]
    cases h : l.findIdx? fun x => x == n with
    | none => simp
    | some i =>
      have : ¬ ((i : Int) = -1) := by omega
      simp [this]
theorem idxI_ge (l : List Int) (n : Int) : -1 ≤ idxI l n := by
  unfold idxI
  split <;> omega
theorem idxI_mem (l : List Int) (n : Int) : decide (idxI l n ≥ 0) = decide (n ∈ l) := by
  induction l with
  | nil => rfl
  | cons x l ih =>
    rw [idxI_cons]
    have hg := idxI_ge l n
    by_cases c : x = n
    · simp [c]
    · rw [if_neg c]
      rw [decide_eq_decide] at ih ⊢
      rw [List.mem_cons]
      split
      · have : ¬ n ∈ l := fun h => by have := ih.2 h; omega
        simp [Ne.symm c, this]
      · have : n ∈ l := ih.1 (by omega)
        simp [this]
        omega
/-- The sum, as Go's ints tell it. -/
def sumFrom (s : Int) : List Int → Int
  | [] => s
  | x :: l => sumFrom (wrap64 (s + x)) l

theorem ev_toIntS_l (l : List Int) (hn : l.length ≤ 35184372088832) : ∀ (suf pre : List Int), l = pre ++ suf → ∀ (z : List Int), z.length = suf.length → Ev (fun k => laws_toIntS.l0 k l (pre ++ z) (pre.length : Int)) l
  | [], pre, e, z, hz => by
    subst e
    have : z = [] := List.length_eq_zero_iff.1 hz
    subst this
    refine Ev.round (f := fun _ => some (pre ++ [])) (fun k => ?_) (Ev.now _)
    simp only [laws_toIntS.l0]
    rw [if_neg (by simp)]
  | x :: suf, pre, e, [], hz => by simp at hz
  | x :: suf, pre, e, y :: z, hz => by
    subst e
    have ih := ev_toIntS_l (pre ++ x :: suf) hn suf (pre ++ [x]) (snoc_mid _ _ _) z (by simpa using hz)
    refine Ev.round (fun k => ?_) ih
    simp only [laws_toIntS.l0]
    rw [if_pos (lt_mid _ _ _), if_pos (by omega), if_pos (lt_mid _ _ _), rd_mid, up_mid pre suf x (by omega)]
    congr 1
    rw [Int.toNat_natCast, List.set_append_right _ _ (Nat.le_refl _), Nat.sub_self, List.set_cons_zero]
    simp
theorem ev_toIntS (l : List Int) (hn : l.length ≤ 35184372088832) : Ev (fun k => laws_toIntS.f k l) l := by
  have h := ev_toIntS_l l hn l [] rfl (List.replicate l.length 0) (by simp)
  refine Ev.eqv (fun k => ?_) h
  unfold laws_toIntS.f
  rw [if_pos (by omega), Int.toNat_natCast, if_pos hn]
  rfl

theorem ev_eqIntS_l (a b : List Int) (hab : a.length = b.length) (hn : a.length ≤ 9223372036854775807) : ∀ (sa pa sb pb : List Int), a = pa ++ sa → b = pb ++ sb → pa.length = pb.length → Ev (fun k => laws_eqIntS.l0 k a b (pa.length : Int)) (decide (sa = sb))
  | [], pa, sb, pb, ea, eb, hp => by
    subst ea
    refine Ev.round (f := fun _ => some true) (fun k => ?_) (Ev.cast (Ev.now _) ?_)
    · simp only [laws_eqIntS.l0]
      rw [if_neg (by simp)]
    · have : sb = [] := by
        rw [eb] at hab
        simp at hab
        exact List.length_eq_zero_iff.1 (by omega)
      rw [this]; rfl
  | x :: sa, pa, [], pb, ea, eb, hp => by
    rw [ea, eb] at hab
    simp at hab
    omega
  | x :: sa, pa, y :: sb, pb, ea, eb, hp => by
    subst ea
    subst eb
    have h1 : ((pa.length : Nat) : Int) = (pb.length : Int) := by omega
    by_cases e : x = y
    · subst e
      have ih := ev_eqIntS_l (pa ++ x :: sa) (pb ++ x :: sb) hab hn sa (pa ++ [x]) sb (pb ++ [x]) (snoc_mid _ _ _) (snoc_mid _ _ _) (by simp [hp])
      refine Ev.round (fun k => ?_) (Ev.cast ih (by simp))
      simp only [laws_eqIntS.l0]
      rw [if_pos (lt_mid _ _ _), if_pos (by omega), if_pos (by rw [h1]; exact lt_mid _ _ _), rd_mid, h1, rd_mid, if_pos rfl, ← h1, up_mid _ _ _ hn]
    · refine Ev.round (f := fun _ => some false) (fun k => ?_) (Ev.cast (Ev.now _) (by simp [e]))
      simp only [laws_eqIntS.l0]
      rw [if_pos (lt_mid _ _ _), if_pos (by omega), if_pos (by rw [h1]; exact lt_mid _ _ _), rd_mid, h1, rd_mid, if_neg e]
theorem ev_eqIntS (a b : List Int) (hn : a.length ≤ 9223372036854775807) : Ev (fun k => laws_eqIntS.f k a b) (decide (a = b)) := by
  unfold laws_eqIntS.f
  by_cases h : a.length = b.length
  · exact Ev.ite_pos (by omega) (ev_eqIntS_l a b h hn a [] b [] rfl rfl rfl)
  · refine Ev.ite_neg (by omega) (Ev.cast (Ev.now _) ?_)
    rw [decide_eq_false]
    rintro rfl
    exact h rfl

theorem in_eq (a lo hi : Int) : spec_l1In.f a lo hi = some (decide (lo ≤ a) && decide (a ≤ hi)) := by
  unfold spec_l1In.f
  by_cases h : a ≥ lo
  · rw [if_pos h]; simp [h]
  · rw [if_neg h]; simp [h]

theorem within_eq (a lo hi : Int) : impl_within.f a lo hi = some (decide (lo ≤ a) && decide (a ≤ hi)) := by
  unfold impl_within.f
  by_cases h : a ≥ lo
  · rw [if_pos h]; simp [h]
  · rw [if_neg h]; simp [h]

theorem ev_l1All_l (l : List Int) (lo hi : Int) (hn : l.length ≤ 9223372036854775807) : ∀ (suf pre : List Int), l = pre ++ suf → Ev (fun k => spec_l1All.l0 k lo hi l (l.length : Int) (pre.length : Int)) (allIn suf lo hi)
  | [], pre, e => by
    subst e
    refine Ev.round (f := fun _ => some true) (fun k => ?_) (Ev.now _)
    simp only [spec_l1All.l0]
    rw [if_neg (by simp)]
  | x :: suf, pre, e => by
    subst e
    by_cases c : (decide (lo ≤ x) && decide (x ≤ hi)) = true
    · have ih := ev_l1All_l (pre ++ x :: suf) lo hi hn suf (pre ++ [x]) (snoc_mid _ _ _)
      refine Ev.round (fun k => ?_) (Ev.cast ih (by unfold allIn; rw [List.all_cons, c, Bool.true_and]))
      simp only [spec_l1All.l0]
      rw [if_pos (lt_mid _ _ _), if_pos (by omega), if_pos (lt_mid _ _ _), rd_mid, in_eq, Option.bind_some, if_pos c, up_mid _ _ _ hn]
    · refine Ev.round (f := fun _ => some false) (fun k => ?_) (Ev.cast (Ev.now _) (by unfold allIn; rw [List.all_cons, Bool.eq_false_iff.2 c, Bool.false_and]))
      simp only [spec_l1All.l0]
      rw [if_pos (lt_mid _ _ _), if_pos (by omega), if_pos (lt_mid _ _ _), rd_mid, in_eq, Option.bind_some, if_neg c]
theorem ev_l1All (l : List Int) (lo hi : Int) (hn : l.length ≤ 9223372036854775807) : Ev (fun k => spec_l1All.f k l lo hi) (allIn l lo hi) := ev_l1All_l l lo hi hn l [] rfl

theorem allWithin_eq (l : List Int) (lo hi : Int) : impl_allWithin.f l lo hi = some (allIn l lo hi) := rfl

/-! marks in slices of ints -/

/-- n numbers from a on. -/
def upFrom (a : Int) : Nat → List Int
  | 0 => []
  | n + 1 => a :: upFrom (a + 1) n
theorem upFrom_length : ∀ (n : Nat) (a : Int), (upFrom a n).length = n
  | 0, _ => rfl
  | n + 1, a => by rw [upFrom, List.length_cons, upFrom_length n]
theorem ev_markIntS_l : ∀ (suf pre : List Int) (a : Int), 0 ≤ a → a + suf.length ≤ 4611686018427387904 → pre.length + suf.length ≤ 4611686018427387904 → Ev (fun k => laws_markIntS.l0 k (pre ++ suf) a (pre.length : Int)) (a + suf.length, pre ++ upFrom a suf.length)
  | [], pre, a, h0, h1, h2 => by
    refine Ev.round (f := fun _ => some (a, pre ++ [])) (fun k => ?_) (Ev.cast (Ev.now _) (by simp [upFrom]))
    simp only [laws_markIntS.l0]
    rw [if_neg (by simp)]
  | x :: suf, pre, a, h0, h1, h2 => by
    rw [List.length_cons] at h1 h2
    have ih := ev_markIntS_l suf (pre ++ [a]) (a + 1) (by omega) (by omega) (by simp; omega)
    refine Ev.round (fun k => ?_) (Ev.cast ih (by rw [List.length_cons, upFrom]; simp; omega))
    simp only [laws_markIntS.l0]
    have hw : wrap64 (a + 1) = a + 1 := by unfold wrap64; omega
    have hw2 : wrap64 ((pre.length : Int) + 1) = ((pre ++ [a]).length : Int) := by unfold wrap64; simp; omega
    rw [if_pos (lt_mid _ _ _), if_pos (by omega), hw, hw2, Int.toNat_natCast, List.set_append_right _ _ (Nat.le_refl _), Nat.sub_self, List.set_cons_zero]
    simp
theorem ev_markIntS (l : List Int) (a : Int) (h0 : 0 ≤ a) (h1 : a + l.length ≤ 4611686018427387904) : Ev (fun k => laws_markIntS.f k l a) (a + l.length, upFrom a l.length) := ev_markIntS_l l [] a h0 h1 (by simp; omega)

theorem ev_heldIntS_l : ∀ (n : Nat) (pre : List Int) (a : Int), 0 ≤ a → a + n ≤ 4611686018427387904 → pre.length + n ≤ 4611686018427387904 → Ev (fun k => laws_heldIntS.l0 k (pre ++ upFrom a n) a (pre.length : Int)) (a + n)
  | 0, pre, a, h0, h1, h2 => by
    refine Ev.round (f := fun _ => some a) (fun k => ?_) (Ev.cast (Ev.now _) (by simp))
    simp only [laws_heldIntS.l0]
    rw [if_neg (by simp [upFrom])]
  | n + 1, pre, a, h0, h1, h2 => by
    have ih := ev_heldIntS_l n (pre ++ [a]) (a + 1) (by omega) (by omega) (by simp; omega)
    refine Ev.round (fun k => ?_) (Ev.cast ih (by omega))
    rw [upFrom]
    simp only [laws_heldIntS.l0]
    have hw : wrap64 (a + 1) = a + 1 := by unfold wrap64; omega
    have hw2 : wrap64 ((pre.length : Int) + 1) = ((pre ++ [a]).length : Int) := by unfold wrap64; simp; omega
    rw [if_pos (lt_mid _ _ _), if_pos (by omega), rd_mid, if_pos rfl, hw, hw2]
    simp
theorem ev_heldIntS (a : Int) (n : Nat) (h0 : 0 ≤ a) (h1 : a + n ≤ 4611686018427387904) : Ev (fun k => laws_heldIntS.f k (upFrom a n) a) (a + n) := ev_heldIntS_l n [] a h0 h1 (by simp; omega)

theorem szIntS_eq (l : List Int) (a : Int) : laws_szIntS.f l a = some (if wrap64 (a - (l.length : Int)) < 0 then -1 else wrap64 (a - (l.length : Int))) := by
  unfold laws_szIntS.f
  split <;> rfl

/-! trades -/

def goodTrade (need : List Int) (s p : Int) : Bool := (decide (1 ≤ (need.length : Int)) && decide ((need.length : Int) ≤ 10)) && (allIn need 0 20 && ((decide (0 ≤ s) && decide (s ≤ 100)) && (decide (0 ≤ p) && decide (p ≤ 10))))
theorem ev_GoodTrade (need : List Int) (s p : Int) (hn : need.length ≤ 9223372036854775807) : Ev (fun k => spec_GoodTrade.f k need s p) (goodTrade need s p) := by
  unfold spec_GoodTrade.f goodTrade
  refine Ev.bindc (in_eq _ _ _) ?_
  cases (decide (1 ≤ (need.length : Int)) && decide ((need.length : Int) ≤ 10)) with
  | false => exact Ev.ite_neg (by simp) (Ev.now _)
  | true =>
    refine Ev.ite_pos rfl (Ev.bind (ev_l1All need 0 20 hn) ?_)
    cases allIn need 0 20 with
    | false => exact Ev.ite_neg (by simp) (Ev.now _)
    | true =>
      refine Ev.ite_pos rfl (Ev.bindc (in_eq _ _ _) ?_)
      cases (decide (0 ≤ s) && decide (s ≤ 100)) with
      | false => exact Ev.ite_neg (by simp) (Ev.now _)
      | true => exact Ev.ite_pos rfl (Ev.bindc (in_eq _ _ _) (Ev.cast (Ev.now _) (by simp)))
theorem implGoodTrade (need : List Int) (s p : Int) : impl_GoodTrade.f need s p = some (goodTrade need s p) := by
  unfold impl_GoodTrade.f goodTrade
  rw [within_eq, Option.bind_some]
  cases (decide (1 ≤ (need.length : Int)) && decide ((need.length : Int) ≤ 10)) with
  | false => rfl
  | true =>
    rw [if_pos rfl, allWithin_eq, Option.bind_some]
    cases allIn need 0 20 with
    | false => rfl
    | true =>
      rw [if_pos rfl, within_eq, Option.bind_some]
      cases (decide (0 ≤ s) && decide (s ≤ 100)) with
      | false => rfl
      | true =>
        rw [if_pos rfl, within_eq]
        simp
theorem goodTrade_iff {need : List Int} {s p : Int} (h : goodTrade need s p = true) : 1 ≤ need.length ∧ need.length ≤ 10 ∧ (∀ x ∈ need, 0 ≤ x ∧ x ≤ 20) := by
  unfold goodTrade at h
  simp only [Bool.and_eq_true, decide_eq_true_iff, allIn_iff] at h
  exact ⟨by omega, by omega, h.2.1⟩

theorem ev_toTrade (a : List Int) (s p : Int) (h0 : a.length ≤ 35184372088832) : Ev (fun k => laws_toTrade.f k a s p) (a, s, p) := by
  unfold laws_toTrade.f
  exact Ev.bind (ev_toIntS a h0) (Ev.now _)
theorem ev_eqTrade (a : List Int) (s p : Int) (h0 : a.length ≤ 35184372088832) : Ev (fun k => laws_eqTrade.f k a s p a s p) true := by
  unfold laws_eqTrade.f
  exact Ev.bind (ev_eqIntS a a (by omega)) (Ev.ite_pos (by simp) (Ev.ite_pos rfl (Ev.ite_pos rfl (Ev.now _))))
theorem szTrade_eq (a : List Int) (s p : Int) (ha : a.length ≤ maxLen) : ∃ z, laws_szTrade.f a s p 1048576 = some z ∧ (z < 0 ∨ (a.length : Int) ≤ 1048576) := by
  unfold maxLen at ha
  unfold laws_szTrade.f
  rw [szIntS_eq]
  simp only [Option.bind_some]
  have e1 : wrap64 (1048576 - (a.length : Int)) = 1048576 - (a.length : Int) := by unfold wrap64; omega
  rw [e1]
  by_cases h1 : 1048576 - (a.length : Int) < 0
  · rw [if_pos h1, if_pos (by decide)]
    exact ⟨_, rfl, .inl (by decide)⟩
  · rw [if_neg h1, if_neg h1]
    exact ⟨_, rfl, .inr (by omega)⟩

theorem ev_markTrade (l : List Int) (s p a : Int) (h0 : 0 ≤ a) (h1 : a + l.length ≤ 4611686018427387904) : Ev (fun k => laws_markTrade.f k l s p a) (a + l.length, upFrom a l.length) := by
  unfold laws_markTrade.f
  exact Ev.bind (ev_markIntS l a h0 h1) (Ev.now _)

theorem ev_l12Numbers_l (n : Nat) (hn : n ≤ 1000000) : ∀ (d : Nat) (pre : List Int), pre.length + d = n → Ev (fun k => spec_l12Numbers.l0 k (n : Int) pre (pre.length : Int)) (pre ++ upFrom (pre.length : Int) d)
  | 0, pre, e => by
    refine Ev.round (f := fun _ => some pre) (fun k => ?_) (Ev.cast (Ev.now _) (by simp [upFrom]))
    simp only [spec_l12Numbers.l0]
    rw [if_neg (by omega)]
  | d + 1, pre, e => by
    have ih := ev_l12Numbers_l n hn d (pre ++ [(pre.length : Int)]) (by simp; omega)
    refine Ev.round (fun k => ?_) (Ev.cast ih (by rw [upFrom]; simp))
    simp only [spec_l12Numbers.l0]
    rw [if_pos (by omega), if_pos (by omega)]
    congr 1
    rw [List.length_append, List.length_singleton]
    unfold wrap64
    omega
theorem ev_l12Numbers (n : Nat) (hn : n ≤ 1000000) : Ev (fun k => spec_l12Numbers.f k (n : Int)) (upFrom 0 n) := by
  unfold spec_l12Numbers.f
  exact ev_l12Numbers_l n hn n [] (by simp)

/-! rising lists -/
/-- Each number is greater than the one ahead of it (prev: what stands ahead of the list). -/
def upB : Option Int → List Int → Bool
  | _, [] => true
  | none, x :: l => upB (some x) l
  | some p, x :: l => decide (p < x) && upB (some x) l
def riseB (l : List Int) (n : Int) : Bool := upB none l && allIn l 0 (n - 1)
def riseAt (n : Int) : Option Int → List Int → Bool
  | _, [] => true
  | none, x :: l => (decide (0 ≤ x) && decide (x < n)) && riseAt n (some x) l
  | some p, x :: l => (decide (0 ≤ x) && decide (x < n)) && (decide (p < x) && riseAt n (some x) l)
theorem riseAt_eq (n : Int) : ∀ (l : List Int) (p : Option Int), riseAt n p l = (upB p l && allIn l 0 (n - 1))
  | [], p => by cases p <;> rfl
  | x :: l, none => by
    simp only [riseAt, upB, riseAt_eq n l, allIn, List.all_cons]
    rw [show decide (x < n) = decide (x ≤ n - 1) from decide_eq_decide.2 (by omega)]
    generalize (decide (0 ≤ x) && decide (x ≤ n - 1)) = a
    generalize upB (some x) l = b
    cases a <;> cases b <;> rfl
  | x :: l, some p => by
    simp only [riseAt, upB, riseAt_eq n l, allIn, List.all_cons]
    rw [show decide (x < n) = decide (x ≤ n - 1) from decide_eq_decide.2 (by omega)]
    generalize (decide (0 ≤ x) && decide (x ≤ n - 1)) = a
    generalize upB (some x) l = b
    generalize decide (p < x) = c
    cases a <;> cases b <;> cases c <;> rfl
/-- What stands ahead, and the list that lies ahead. -/
def Ahead : Option Int → List Int → Prop
  | none, pre => pre = []
  | some p, pre => ∃ q, pre = q ++ [p]

/-! lots on some days alone -/

/-- Lots of each day's need up to the next day. -/
def lotsGo (need : List Int) : List Int → List Int → List Int
  | [], x => x
  | d :: rest, x => lotsGo need rest (x.set d.toNat (sumFrom 0 ((need.take (rest.headD (need.length : Int)).toNat).drop d.toNat)))
theorem set_set {α : Type} (l : List α) (i : Nat) (a b : α) : (l.set i a).set i b = l.set i b := by simp
theorem ev_l14For_in (need days : List Int) (s p : Int) (hn : need.length ≤ 1048576) (i : Int) (r : List Int) (d : Nat) (e : Nat) : ∀ (mid pre post x : List Int), need = pre ++ (mid ++ post) → e = pre.length + mid.length → d < x.length →
    Ev (fun k => spec_l14For.l0 k days (x.set d (sumFrom (rd x d) mid)) days (days.length : Int) (wrap64 (i + 1)) need s p) r → Ev (fun k => spec_l14For.l1 k days x (d : Int) (e : Int) (pre.length : Int) days (days.length : Int) i need s p) r
  | [], pre, post, x, en, ee, hd, h => by
    refine Ev.round (fun k => ?_) h
    simp only [spec_l14For.l1]
    rw [if_neg (by simp at ee; omega)]
    congr 1
    simp only [sumFrom, rd, Int.toNat_natCast]
    rw [List.getD_eq_getElem?_getD, List.getElem?_eq_getElem hd]
    simp
  | y :: mid, pre, post, x, en, ee, hd, h => by
    have h1 : (pre.length : Int) < (need.length : Int) := by rw [en]; exact lt_mid _ _ _
    have h2 : rd need (pre.length : Int) = y := by rw [en]; exact rd_mid _ _ _
    have h3 : wrap64 ((pre.length : Int) + 1) = ((pre ++ [y]).length : Int) := by rw [List.length_append, List.length_singleton]; unfold wrap64; omega
    rw [List.length_cons] at ee
    have ih := ev_l14For_in need days s p hn i r d e mid (pre ++ [y]) post (x.set d (wrap64 (rd x d + y))) (by rw [en]; simp) (by rw [List.length_append, List.length_singleton]; omega) (by simpa using hd) (by
      have hx : rd (x.set d (wrap64 (rd x d + y))) (d : Int) = wrap64 (rd x d + y) := by
        unfold rd
        rw [Int.toNat_natCast, List.getD_eq_getElem?_getD, List.getElem?_set_self hd]
        rfl
      rw [hx, set_set]
      exact h)
    refine Ev.round (fun k => ?_) ih
    simp only [spec_l14For.l1]
    rw [if_pos (by omega), if_pos (by omega), if_pos (by omega), if_pos (by omega), if_pos h1, h2, h3, Int.toNat_natCast]
theorem split_at (l : List Int) (d e : Nat) (h : d ≤ e) (h2 : e ≤ l.length) : l = l.take d ++ ((l.take e).drop d ++ l.drop e) := by
  have h3 : (l.take e).drop d ++ l.drop e = l.drop d := by
    rw [List.drop_take]
    have h4 : (l.drop d).drop (e - d) = l.drop e := by rw [List.drop_drop]; congr 1; omega
    rw [← h4, List.take_append_drop]
  rw [h3, List.take_append_drop]
/-- What is asked of days: they rise, below n; where they are put nothing lies yet. -/
def GoodDays (n : Nat) (p : Option Int) (l : List Int) : Prop := upB p l = true ∧ ∀ x ∈ l, 0 ≤ x ∧ x < (n : Int)
theorem upB_cons {p : Option Int} {x : Int} {l : List Int} (h : upB p (x :: l) = true) : upB (some x) l = true ∧ ∀ q, p = some q → q < x := by
  cases p with
  | none => exact ⟨h, fun q hq => by cases hq⟩
  | some p =>
    simp only [upB, Bool.and_eq_true, decide_eq_true_iff] at h
    exact ⟨h.2, fun q hq => by cases hq; exact h.1⟩
theorem upB_gt : ∀ (l : List Int) (p : Int), upB (some p) l = true → ∀ x ∈ l, p < x
  | [], p, h, x, hx => by simp at hx
  | y :: l, p, h, x, hx => by
    obtain ⟨h1, h2⟩ := upB_cons h
    have h3 := h2 p rfl
    rcases List.mem_cons.1 hx with rfl | hx
    · exact h3
    · have := upB_gt l y h1 x hx
      omega
theorem ev_l14For_l (need days : List Int) (s p : Int) (hn : need.length ≤ 1048576) (hd : days.length ≤ 1048576) : ∀ (suf pre x : List Int) (q : Option Int), days = pre ++ suf → x.length = need.length → GoodDays need.length q suf → (∀ d ∈ suf, rd x d = 0) →
    Ev (fun k => spec_l14For.l0 k days x days (days.length : Int) (pre.length : Int) need s p) (lotsGo need suf x)
  | [], pre, x, q, e, hx, hg, hz => by
    refine Ev.round (f := fun _ => some x) (fun k => ?_) (Ev.now _)
    simp only [spec_l14For.l0]
    rw [if_neg (by subst e; simp)]
  | d :: suf, pre, x, q, e, hx, hg, hz => by
    have h1 : (pre.length : Int) < (days.length : Int) := by rw [e]; exact lt_mid _ _ _
    have h2 : rd days (pre.length : Int) = d := by rw [e]; exact rd_mid _ _ _
    have h3 : wrap64 ((pre.length : Int) + 1) = ((pre ++ [d]).length : Int) := by rw [List.length_append, List.length_singleton]; unfold wrap64; omega
    have hb := hg.2 d (by simp)
    have hup := upB_cons hg.1
    obtain ⟨D, rfl⟩ : ∃ D : Nat, d = (D : Int) := ⟨d.toNat, by omega⟩
    have hxd : rd x (D : Int) = 0 := hz _ (by simp)
    have hend : ∃ E : Nat, suf.headD (need.length : Int) = (E : Int) ∧ D ≤ E ∧ E ≤ need.length := by
      cases suf with
      | nil => exact ⟨need.length, rfl, by omega, Nat.le_refl _⟩
      | cons y suf =>
        have hy := hg.2 y (by simp)
        have := upB_gt _ _ hup.1 y (by simp)
        exact ⟨y.toNat, by simp; omega, by omega, by omega⟩
    obtain ⟨E, hE, hDE, hEn⟩ := hend
    have ih := ev_l14For_l need days s p hn hd suf (pre ++ [(D : Int)]) (x.set D (sumFrom 0 ((need.take E).drop D))) (some (D : Int)) (by rw [e]; simp) (by simpa using hx) ⟨hup.1, fun y hy => hg.2 y (by simp [hy])⟩ (fun y hy => by
      have hy1 := hg.2 y (by simp [hy])
      have hy2 := upB_gt _ _ hup.1 y hy
      have := hz y (by simp [hy])
      unfold rd at this ⊢
      rw [List.getD_eq_getElem?_getD, List.getElem?_set_ne (by omega), ← List.getD_eq_getElem?_getD]
      exact this)
    have hin := ev_l14For_in need days s p hn (pre.length : Int) (lotsGo need ((D : Int) :: suf) x) D E ((need.take E).drop D) (need.take D) (need.drop E) x (split_at need D E hDE hEn) (by rw [List.length_drop, List.length_take, List.length_take]; omega) (by omega) (by
      rw [hxd, h3]
      simp only [lotsGo, hE, Int.toNat_natCast]
      exact ih)
    rw [List.length_take, Nat.min_eq_left (by omega)] at hin
    have hj : Ev (fun k => spec_l14For.j1 k days x (D : Int) (E : Int) days (days.length : Int) (pre.length : Int) need s p) (lotsGo need ((D : Int) :: suf) x) := by
      refine Ev.round (fun k => ?_) hin
      simp only [spec_l14For.j1]
    refine Ev.round (fun k => ?_) hj
    simp only [spec_l14For.l0]
    rw [if_pos h1, if_pos (by omega), if_pos h1, h2, h3]
    cases suf with
    | nil =>
      rw [if_neg (by rw [e]; simp)]
      rw [show (E : Int) = (need.length : Int) from hE.symm]
    | cons y suf =>
      have h4 : rd days ((pre ++ [(D : Int)]).length : Int) = y := by
        rw [e, snoc_mid]
        exact rd_mid _ _ _
      rw [if_pos (by rw [e]; simp; omega), if_pos (by omega), h4]
      rw [show (E : Int) = y from hE.symm]
theorem rd_zeros (n : Nat) (d : Int) : rd (List.replicate n 0) d = 0 := by
  unfold rd
  rw [List.getD_eq_getElem?_getD, List.getElem?_replicate]
  split <;> rfl
def lotsB (need days : List Int) : List Int := lotsGo need days (List.replicate need.length 0)
theorem ev_l14For (need days : List Int) (s p : Int) (hn : need.length ≤ 1048576) (hd : days.length ≤ 1048576) (hg : GoodDays need.length none days) : Ev (fun k => spec_l14For.f k need s p days) (lotsB need days) := by
  refine Ev.eqv (fun k => ?_) (ev_l14For_l need days s p hn hd days [] (List.replicate need.length 0) none rfl (by simp) hg (fun d _ => rd_zeros _ d))
  unfold spec_l14For.f
  rw [if_pos (by omega), Int.toNat_natCast, if_pos (by omega)]
  rfl

theorem lotsGo_length (need : List Int) : ∀ (l x : List Int), (lotsGo need l x).length = x.length
  | [], x => rfl
  | d :: l, x => by rw [lotsGo, lotsGo_length need l]; simp
theorem lotsB_length (need days : List Int) : (lotsB need days).length = need.length := by unfold lotsB; rw [lotsGo_length]; simp
theorem lots_each (need : List Int) (hb : ∀ x ∈ need, 0 ≤ x ∧ x ≤ 20) : ∀ (post pre : List Int), need = pre ++ post → lotsGo need (upFrom (pre.length : Int) post.length) (pre ++ List.replicate post.length 0) = need
  | [], pre, e => by simp [upFrom, lotsGo, e]
  | x :: post, pre, e => by
    have hx := hb x (by rw [e]; simp)
    have ih := lots_each need hb post (pre ++ [x]) (by rw [e]; simp)
    rw [List.length_cons, upFrom, lotsGo]
    have hE : ((upFrom ((pre.length : Int) + 1) post.length).headD (need.length : Int)).toNat = pre.length + 1 := by
      cases post with
      | nil => rw [e]; simp [upFrom]
      | cons y post =>
        simp only [upFrom, List.length_cons, List.headD_cons]
        omega
    have ht : (need.take (pre.length + 1)).drop pre.length = [x] := by
      rw [e, snoc_mid, show pre.length + 1 = (pre ++ [x]).length by simp, List.take_left, List.drop_left]
    rw [hE, Int.toNat_natCast, ht]
    have hs : sumFrom 0 [x] = x := by simp only [sumFrom]; unfold wrap64; omega
    rw [hs, List.replicate_succ, List.set_append_right _ _ (Nat.le_refl _), Nat.sub_self, List.set_cons_zero]
    rw [show pre ++ x :: List.replicate post.length 0 = (pre ++ [x]) ++ List.replicate post.length 0 by simp]
    rw [show (pre.length : Int) + 1 = ((pre ++ [x]).length : Int) by simp]
    exact ih

end Go.Proofs.Ytgeapkhhfmjpaaa.Pure
