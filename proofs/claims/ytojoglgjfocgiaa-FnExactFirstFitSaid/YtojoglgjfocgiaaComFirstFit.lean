import Derived.Test.YtojoglgjfocgiaaGLFirstFit0
import Derived.Test.YtojoglgjfocgiaaGLFirstFit1
import Derived.Test.YtojoglgjfocgiaaGLFirstFit2
import Derived.Test.YtojoglgjfocgiaaGLFirstFit3
import Derived.Test.YtojoglgjfocgiaaGLFirstFit4
import Derived.Test.YtojoglgjfocgiaaGLFirstFit5
namespace Go.Proofs.Ytojoglgjfocgiaa.Pure
open Go.RowKit Go.Proofs.Ytojoglgjfocgiaa.GLFirstFit Go.Proofs.YtojoglgjfocgiaaW.PrintWords Go.Proofs.YtojoglgjfocgiaaW.PrintLast Go.Proofs.YtojoglgjfocgiaaW.PrintMore Go.Proofs.YtojoglgjfocgiaaW.PrintOwn
set_option linter.unusedVariables false
set_option linter.unusedSimpArgs false
theorem Ev.bindc {α β : Type} {g : Option α} {f : Nat → α → Option β} {a : α} {r : β} (h : g = some a) (k : Ev (fun n => f n a) r) : Ev (fun n => g.bind (f n)) r := by
  subst h
  exact k
/-- One round. -/
theorem Ev.round {α : Type} {g f : Nat → Option α} {r : α} (h : ∀ k, g (k + 1) = f k) (k : Ev f r) : Ev g r := Ev.step h k
theorem Ev.eqv {α : Type} {g f : Nat → Option α} {r : α} (h : ∀ k, g k = f k) (k : Ev f r) : Ev g r := Ev.congr h k
theorem Ev.cast {α : Type} {g : Nat → Option α} {r r' : α} (h : Ev g r) (e : r = r') : Ev g r' := e ▸ h
theorem Ev.ite_pos {α : Type} {c : Prop} [Decidable c] {g f : Nat → Option α} {r : α} (hc : c) (k : Ev g r) : Ev (fun n => if c then g n else f n) r := by
  refine Ev.eqv (fun n => ?_) k
  rw [if_pos hc]
theorem Ev.ite_neg {α : Type} {c : Prop} [Decidable c] {g f : Nat → Option α} {r : α} (hc : ¬ c) (k : Ev f r) : Ev (fun n => if c then g n else f n) r := by
  refine Ev.eqv (fun n => ?_) k
  rw [if_neg hc]
theorem getD_mid {α : Type} (d : α) (pre suf : List α) (x : α) : (pre ++ x :: suf).getD (pre.length : Int).toNat d = x := by
  rw [Int.toNat_natCast, List.getD_eq_getElem?_getD, List.getElem?_append_right (Nat.le_refl _), Nat.sub_self]
  rfl
theorem rd_mid (pre suf : List Int) (x : Int) : rd (pre ++ x :: suf) (pre.length : Int) = x := getD_mid 0 pre suf x
theorem lt_mid {α : Type} (pre suf : List α) (x : α) : (pre.length : Int) < ((pre ++ x :: suf).length : Int) := by
  rw [List.length_append, List.length_cons]; omega
theorem up_mid {α : Type} (pre suf : List α) (x : α) (h : (pre ++ x :: suf).length ≤ 9223372036854775807) : wrap64 ((pre.length : Int) + 1) = ((pre ++ [x]).length : Int) := by
  rw [List.length_append, List.length_cons] at h
  rw [List.length_append, List.length_singleton]
  unfold wrap64
  omega
theorem snoc_mid {α : Type} (pre suf : List α) (x : α) : pre ++ x :: suf = (pre ++ [x]) ++ suf := by simp
theorem Ev.need {α β : Type} [DecidableEq α] {g : Nat → Option α} {a : α} {f : Nat → Option β} {r : β} (h : Ev g a) (k : Ev f r) : Ev (fun n => if g n = some a then f n else none) r := by
  obtain ⟨m1, h1⟩ := h
  obtain ⟨m2, h2⟩ := k
  exact ⟨max m1 m2, fun n hn => by show (if g n = some a then f n else none) = some r; rw [if_pos (h1 n (by omega))]; exact h2 n (by omega)⟩
/-- All numbers lie between two. -/
def allIn (l : List Int) (lo hi : Int) : Bool := l.all fun n => decide (lo ≤ n) && decide (n ≤ hi)
theorem allIn_iff {l : List Int} {lo hi : Int} : allIn l lo hi = true ↔ ∀ x ∈ l, lo ≤ x ∧ x ≤ hi := by
  unfold allIn
  rw [List.all_eq_true]
  simp
theorem ev_toIntS_l (l : List Int) (hn : l.length ≤ 35184372088832) : ∀ (suf pre : List Int), l = pre ++ suf → ∀ (z : List Int), z.length = suf.length → Ev (fun k => laws_toIntS.l0 k l (pre ++ z) (pre.length : Int)) l
  | [], pre, e, z, hz => by
    subst e
    have : z = [] := List.length_eq_zero_iff.1 hz
    subst this
    refine Ev.round (f := fun _ => some (pre ++ [])) (fun k => ?_) (Ev.now _)
    simp only [laws_toIntS.l0]
    rw [if_neg (by simp)]
  | x :: suf, pre, e, [], hz => by simp at hz
  | x :: suf, pre, e, y :: z, hz => by
    subst e
    have ih := ev_toIntS_l (pre ++ x :: suf) hn suf (pre ++ [x]) (snoc_mid _ _ _) z (by simpa using hz)
    refine Ev.round (fun k => ?_) ih
    simp only [laws_toIntS.l0]
    rw [if_pos (lt_mid _ _ _), if_pos (by omega), if_pos (lt_mid _ _ _), rd_mid, up_mid pre suf x (by omega)]
    congr 1
    rw [Int.toNat_natCast, List.set_append_right _ _ (Nat.le_refl _), Nat.sub_self, List.set_cons_zero]
    simp
theorem ev_toIntS (l : List Int) (hn : l.length ≤ 35184372088832) : Ev (fun k => laws_toIntS.f k l) l := by
  have h := ev_toIntS_l l hn l [] rfl (List.replicate l.length 0) (by simp)
  refine Ev.eqv (fun k => ?_) h
  unfold laws_toIntS.f
  rw [if_pos (by omega), Int.toNat_natCast, if_pos hn]
  rfl
theorem ev_eqIntS_l (a b : List Int) (hab : a.length = b.length) (hn : a.length ≤ 9223372036854775807) : ∀ (sa pa sb pb : List Int), a = pa ++ sa → b = pb ++ sb → pa.length = pb.length → Ev (fun k => laws_eqIntS.l0 k a b (pa.length : Int)) (decide (sa = sb))
  | [], pa, sb, pb, ea, eb, hp => by
    subst ea
    refine Ev.round (f := fun _ => some true) (fun k => ?_) (Ev.cast (Ev.now _) ?_)
    · simp only [laws_eqIntS.l0]
      rw [if_neg (by simp)]
    · have : sb = [] := by
        rw [eb] at hab
        simp at hab
        exact List.length_eq_zero_iff.1 (by omega)
      rw [this]; rfl
  | x :: sa, pa, [], pb, ea, eb, hp => by
    rw [ea, eb] at hab
    simp at hab
    omega
  | x :: sa, pa, y :: sb, pb, ea, eb, hp => by
    subst ea
    subst eb
    have h1 : ((pa.length : Nat) : Int) = (pb.length : Int) := by omega
    by_cases e : x = y
    · subst e
      have ih := ev_eqIntS_l (pa ++ x :: sa) (pb ++ x :: sb) hab hn sa (pa ++ [x]) sb (pb ++ [x]) (snoc_mid _ _ _) (snoc_mid _ _ _) (by simp [hp])
      refine Ev.round (fun k => ?_) (Ev.cast ih (by simp))
      simp only [laws_eqIntS.l0]
      rw [if_pos (lt_mid _ _ _), if_pos (by omega), if_pos (by rw [h1]; exact lt_mid _ _ _), rd_mid, h1, rd_mid, if_pos rfl, ← h1, up_mid _ _ _ hn]
    · refine Ev.round (f := fun _ => some false) (fun k => ?_) (Ev.cast (Ev.now _) (by simp [e]))
      simp only [laws_eqIntS.l0]
      rw [if_pos (lt_mid _ _ _), if_pos (by omega), if_pos (by rw [h1]; exact lt_mid _ _ _), rd_mid, h1, rd_mid, if_neg e]
theorem ev_eqIntS (a b : List Int) (hn : a.length ≤ 9223372036854775807) : Ev (fun k => laws_eqIntS.f k a b) (decide (a = b)) := by
  unfold laws_eqIntS.f
  by_cases h : a.length = b.length
  · exact Ev.ite_pos (by omega) (ev_eqIntS_l a b h hn a [] b [] rfl rfl rfl)
  · refine Ev.ite_neg (by omega) (Ev.cast (Ev.now _) ?_)
    rw [decide_eq_false]
    rintro rfl
    exact h rfl
theorem in_eq (a lo hi : Int) : spec_l1In.f a lo hi = some (decide (lo ≤ a) && decide (a ≤ hi)) := by
  unfold spec_l1In.f
  by_cases h : a ≥ lo
  · rw [if_pos h]; simp [h]
  · rw [if_neg h]; simp [h]
theorem ev_l1All_l (l : List Int) (lo hi : Int) (hn : l.length ≤ 9223372036854775807) : ∀ (suf pre : List Int), l = pre ++ suf → Ev (fun k => spec_l1All.l0 k lo hi l (l.length : Int) (pre.length : Int)) (allIn suf lo hi)
  | [], pre, e => by
    subst e
    refine Ev.round (f := fun _ => some true) (fun k => ?_) (Ev.now _)
    simp only [spec_l1All.l0]
    rw [if_neg (by simp)]
  | x :: suf, pre, e => by
    subst e
    by_cases c : (decide (lo ≤ x) && decide (x ≤ hi)) = true
    · have ih := ev_l1All_l (pre ++ x :: suf) lo hi hn suf (pre ++ [x]) (snoc_mid _ _ _)
      refine Ev.round (fun k => ?_) (Ev.cast ih (by unfold allIn; rw [List.all_cons, c, Bool.true_and]))
      simp only [spec_l1All.l0]
      rw [if_pos (lt_mid _ _ _), if_pos (by omega), if_pos (lt_mid _ _ _), rd_mid, in_eq, Option.bind_some, if_pos c, up_mid _ _ _ hn]
    · refine Ev.round (f := fun _ => some false) (fun k => ?_) (Ev.cast (Ev.now _) (by unfold allIn; rw [List.all_cons, Bool.eq_false_iff.2 c, Bool.false_and]))
      simp only [spec_l1All.l0]
      rw [if_pos (lt_mid _ _ _), if_pos (by omega), if_pos (lt_mid _ _ _), rd_mid, in_eq, Option.bind_some, if_neg c]
theorem ev_l1All (l : List Int) (lo hi : Int) (hn : l.length ≤ 9223372036854775807) : Ev (fun k => spec_l1All.f k l lo hi) (allIn l lo hi) := ev_l1All_l l lo hi hn l [] rfl
theorem allWithin_eq (l : List Int) (lo hi : Int) : impl_allWithin.f l lo hi = some (allIn l lo hi) := rfl
/-- n numbers from a on. -/
def upFrom (a : Int) : Nat → List Int
  | 0 => []
  | n + 1 => a :: upFrom (a + 1) n
theorem ev_markIntS_l : ∀ (suf pre : List Int) (a : Int), 0 ≤ a → a + suf.length ≤ 4611686018427387904 → pre.length + suf.length ≤ 4611686018427387904 → Ev (fun k => laws_markIntS.l0 k (pre ++ suf) a (pre.length : Int)) (a + suf.length, pre ++ upFrom a suf.length)
  | [], pre, a, h0, h1, h2 => by
    refine Ev.round (f := fun _ => some (a, pre ++ [])) (fun k => ?_) (Ev.cast (Ev.now _) (by simp [upFrom]))
    simp only [laws_markIntS.l0]
    rw [if_neg (by simp)]
  | x :: suf, pre, a, h0, h1, h2 => by
    rw [List.length_cons] at h1 h2
    have ih := ev_markIntS_l suf (pre ++ [a]) (a + 1) (by omega) (by omega) (by simp; omega)
    refine Ev.round (fun k => ?_) (Ev.cast ih (by rw [List.length_cons, upFrom]; simp; omega))
    simp only [laws_markIntS.l0]
    have hw : wrap64 (a + 1) = a + 1 := by unfold wrap64; omega
    have hw2 : wrap64 ((pre.length : Int) + 1) = ((pre ++ [a]).length : Int) := by unfold wrap64; simp; omega
    rw [if_pos (lt_mid _ _ _), if_pos (by omega), hw, hw2, Int.toNat_natCast, List.set_append_right _ _ (Nat.le_refl _), Nat.sub_self, List.set_cons_zero]
    simp
theorem ev_markIntS (l : List Int) (a : Int) (h0 : 0 ≤ a) (h1 : a + l.length ≤ 4611686018427387904) : Ev (fun k => laws_markIntS.f k l a) (a + l.length, upFrom a l.length) := ev_markIntS_l l [] a h0 h1 (by simp; omega)
theorem ev_heldIntS_l : ∀ (n : Nat) (pre : List Int) (a : Int), 0 ≤ a → a + n ≤ 4611686018427387904 → pre.length + n ≤ 4611686018427387904 → Ev (fun k => laws_heldIntS.l0 k (pre ++ upFrom a n) a (pre.length : Int)) (a + n)
  | 0, pre, a, h0, h1, h2 => by
    refine Ev.round (f := fun _ => some a) (fun k => ?_) (Ev.cast (Ev.now _) (by simp))
    simp only [laws_heldIntS.l0]
    rw [if_neg (by simp [upFrom])]
  | n + 1, pre, a, h0, h1, h2 => by
    have ih := ev_heldIntS_l n (pre ++ [a]) (a + 1) (by omega) (by omega) (by simp; omega)
    refine Ev.round (fun k => ?_) (Ev.cast ih (by omega))
    rw [upFrom]
    simp only [laws_heldIntS.l0]
    have hw : wrap64 (a + 1) = a + 1 := by unfold wrap64; omega
    have hw2 : wrap64 ((pre.length : Int) + 1) = ((pre ++ [a]).length : Int) := by unfold wrap64; simp; omega
    rw [if_pos (lt_mid _ _ _), if_pos (by omega), rd_mid, if_pos rfl, hw, hw2]
    simp
theorem ev_heldIntS (a : Int) (n : Nat) (h0 : 0 ≤ a) (h1 : a + n ≤ 4611686018427387904) : Ev (fun k => laws_heldIntS.f k (upFrom a n) a) (a + n) := ev_heldIntS_l n [] a h0 h1 (by simp; omega)
theorem rdL_mid (pre suf : List (List Int)) (x : List Int) : rd_L1 (pre ++ x :: suf) (pre.length : Int) = x := getD_mid [] pre suf x
/-- What two texts answer alike. -/
def Same {α : Type} (g h : Nat → Option α) : Prop := ∃ r, Ev g r ∧ Ev h r
theorem Same.now {α : Type} (r : α) : Same (fun _ => some r) (fun _ => some r) := ⟨r, Ev.now _, Ev.now _⟩
theorem Same.round {α : Type} {g h g' h' : Nat → Option α} (a : ∀ k, g (k + 1) = g' k) (b : ∀ k, h (k + 1) = h' k) (s : Same g' h') : Same g h := by
  obtain ⟨r, p, q⟩ := s
  exact ⟨r, Ev.round a p, Ev.round b q⟩
theorem Same.eqv {α : Type} {g h g' h' : Nat → Option α} (a : ∀ k, g k = g' k) (b : ∀ k, h k = h' k) (s : Same g' h') : Same g h := by
  obtain ⟨r, p, q⟩ := s
  exact ⟨r, Ev.eqv a p, Ev.eqv b q⟩
theorem Same.bind {α β : Type} {g h : Nat → Option α} {f f' : Nat → α → Option β} {a : α} (p : Ev g a) (q : Ev h a) (s : Same (fun n => f n a) (fun n => f' n a)) : Same (fun n => (g n).bind (f n)) (fun n => (h n).bind (f' n)) := by
  obtain ⟨r, p', q'⟩ := s
  exact ⟨r, Ev.bind p p', Ev.bind q q'⟩
theorem ev_eqIntSS_l (a b : List (List Int)) (hab : a.length = b.length) (hn : a.length ≤ 9223372036854775807) (hx : ∀ x ∈ a, x.length ≤ 9223372036854775807) : ∀ (sa pa sb pb : List (List Int)), a = pa ++ sa → b = pb ++ sb → pa.length = pb.length → Ev (fun k => laws_eqIntSS.l0 k a b (pa.length : Int)) (decide (sa = sb))
  | [], pa, sb, pb, ea, eb, hp => by
    subst ea
    refine Ev.round (f := fun _ => some true) (fun k => ?_) (Ev.cast (Ev.now _) ?_)
    · simp only [laws_eqIntSS.l0]
      rw [if_neg (by simp)]
    · have : sb = [] := by
        rw [eb] at hab
        simp at hab
        exact List.length_eq_zero_iff.1 (by omega)
      rw [this]; rfl
  | x :: sa, pa, [], pb, ea, eb, hp => by
    rw [ea, eb] at hab
    simp at hab
    omega
  | x :: sa, pa, y :: sb, pb, ea, eb, hp => by
    subst ea
    subst eb
    have h1 : ((pa.length : Nat) : Int) = (pb.length : Int) := by omega
    have h2 : (pa.length : Int) < ((pb ++ y :: sb).length : Int) := by rw [h1]; exact lt_mid _ _ _
    have h3 : rd_L1 (pb ++ y :: sb) (pa.length : Int) = y := by rw [h1]; exact rdL_mid _ _ _
    have he := ev_eqIntS x y (hx x (by simp))
    have ih := fun (e : x = y) => ev_eqIntSS_l (pa ++ x :: sa) (pb ++ y :: sb) hab hn hx sa (pa ++ [x]) sb (pb ++ [y]) (snoc_mid _ _ _) (snoc_mid _ _ _) (by simp [hp])
    refine Ev.round (fun k => ?_) (Ev.bind he (f := fun k t => if t = true then laws_eqIntSS.l0 k (pa ++ x :: sa) (pb ++ y :: sb) (((pa ++ [x]).length : Nat) : Int) else some false) ?_)
    · simp only [laws_eqIntSS.l0]
      rw [if_pos (lt_mid _ _ _), if_pos (by omega), if_pos h2, rdL_mid, h3, up_mid _ _ _ hn]
    · by_cases e : x = y
      · exact Ev.ite_pos (by simp [e]) (Ev.cast (ih e) (by simp [e]))
      · exact Ev.ite_neg (by simp [e]) (Ev.cast (Ev.now _) (by simp [e]))
theorem ev_eqIntSS (a b : List (List Int)) (hn : a.length ≤ 9223372036854775807) (hx : ∀ x ∈ a, x.length ≤ 9223372036854775807) : Ev (fun k => laws_eqIntSS.f k a b) (decide (a = b)) := by
  unfold laws_eqIntSS.f
  by_cases h : a.length = b.length
  · exact Ev.ite_pos (by omega) (ev_eqIntSS_l a b h hn hx a [] b [] rfl rfl rfl)
  · refine Ev.ite_neg (by omega) (Ev.cast (Ev.now _) ?_)
    rw [decide_eq_false]
    rintro rfl
    exact h rfl
def markR : Int → List (List Int) → List (List Int)
  | _, [] => []
  | a, x :: l => upFrom a x.length :: markR (a + x.length) l
theorem markS_run : ∀ (suf pre : List Int) (a : Int) (k : Nat), 0 ≤ a → a + suf.length ≤ 4611686018427387904 → pre.length + suf.length ≤ 4611686018427387904 → suf.length < k → laws_markIntS.l0 k (pre ++ suf) a (pre.length : Int) = some (a + suf.length, pre ++ upFrom a suf.length)
  | [], pre, a, k, h0, h1, h2, hk => by
    obtain ⟨k, rfl⟩ : ∃ j, k = j + 1 := ⟨k - 1, by simp at hk; omega⟩
    simp only [laws_markIntS.l0]
    rw [if_neg (by simp)]
    simp [upFrom]
  | x :: suf, pre, a, k, h0, h1, h2, hk => by
    rw [List.length_cons] at h1 h2 hk
    obtain ⟨k, rfl⟩ : ∃ j, k = j + 1 := ⟨k - 1, by omega⟩
    have ih := markS_run suf (pre ++ [a]) (a + 1) k (by omega) (by omega) (by simp; omega) (by omega)
    simp only [laws_markIntS.l0]
    have hw : wrap64 (a + 1) = a + 1 := by unfold wrap64; omega
    have hw2 : wrap64 ((pre.length : Int) + 1) = ((pre ++ [a]).length : Int) := by unfold wrap64; simp; omega
    rw [if_pos (lt_mid _ _ _), if_pos (by omega), hw, hw2, Int.toNat_natCast, List.set_append_right _ _ (Nat.le_refl _), Nat.sub_self, List.set_cons_zero, show pre ++ a :: suf = (pre ++ [a]) ++ suf from by simp, ih, List.length_cons, upFrom]
    simp
    omega
theorem markS_eq (l : List Int) (a : Int) (h0 : 0 ≤ a) (h1 : a + l.length ≤ 4611686018427387904) : laws_markIntS.f (l.length + 1) l a = some (a + l.length, upFrom a l.length) := markS_run l [] a _ h0 h1 (by simp; omega) (Nat.lt_succ_self _)
theorem markSS_eq : ∀ (l : List (List Int)) (a : Int), 0 ≤ a → a + (l.flatten.length : Int) ≤ 4611686018427387904 → laws_markIntSS.g l a = some (a + l.flatten.length, markR a l)
  | [], a, _, _ => by simp [laws_markIntSS.g, markR]
  | x :: l, a, h0, h1 => by
    rw [List.flatten_cons, List.length_append] at h1
    rw [laws_markIntSS.g, markS_eq x a h0 (by omega), Option.bind_some, markSS_eq l (a + x.length) (by omega) (by omega), Option.bind_some, markR, List.flatten_cons, List.length_append]
    congr 2
    omega
theorem ev_heldIntSS_l : ∀ (suf pre : List (List Int)) (a : Int), 0 ≤ a → a + (suf.flatten.length : Int) ≤ 4611686018427387904 → pre.length + suf.length ≤ 4611686018427387904 → Ev (fun k => laws_heldIntSS.l0 k (pre ++ markR a suf) a (pre.length : Int)) (a + suf.flatten.length)
  | [], pre, a, h0, h1, h2 => by
    refine Ev.round (f := fun _ => some a) (fun k => ?_) (Ev.cast (Ev.now _) (by simp))
    simp only [laws_heldIntSS.l0]
    rw [if_neg (by simp [markR])]
  | x :: suf, pre, a, h0, h1, h2 => by
    rw [List.length_cons] at h2
    rw [List.flatten_cons, List.length_append] at h1
    have ih := ev_heldIntSS_l suf (pre ++ [upFrom a x.length]) (a + x.length) (by omega) (by omega) (by simp; omega)
    rw [markR]
    refine Ev.round (fun k => by simp only [laws_heldIntSS.l0]; rw [if_pos (lt_mid _ _ _), rdL_mid, show wrap64 ((pre.length : Int) + 1) = ((pre ++ [upFrom a x.length]).length : Int) by unfold wrap64; simp; omega]) ?_
    refine Ev.ite_pos (by omega) (Ev.bind (ev_heldIntS a x.length h0 (by omega)) (Ev.ite_neg (by omega) ?_))
    simp only [← snoc_mid] at ih
    exact Ev.cast ih (by rw [List.flatten_cons]; have := @List.length_append Int x suf.flatten; omega)
theorem ev_heldIntSS (l : List (List Int)) (a : Int) (h0 : 0 ≤ a) (h1 : a + (l.flatten.length : Int) ≤ 4611686018427387904) (h2 : l.length ≤ 4611686018427387904) : Ev (fun k => laws_heldIntSS.f k (markR a l) a) (a + l.flatten.length) := ev_heldIntSS_l l [] a h0 h1 (by simpa using h2)
theorem flat_le {l : List (List Int)} {m : Nat} : ∀ (_ : ∀ x ∈ l, x.length ≤ m), l.flatten.length ≤ l.length * m := by
  induction l with
  | nil => intro _; simp
  | cons x l ih =>
    intro h
    have h1 := ih (fun y hy => h y (by simp [hy]))
    have h2 := h x (by simp)
    rw [List.flatten_cons, List.length_append, List.length_cons, Nat.succ_mul]
    omega
def goodItems (l : List Int) : Bool := decide ((l.length : Int) ≤ 9) && allIn l 1 20
theorem ev_GoodItems (l : List Int) (hn : l.length ≤ 9223372036854775807) : Ev (fun k => spec_GoodItems.f k l) (goodItems l) := by
  unfold spec_GoodItems.f
  by_cases h : (l.length : Int) ≤ 9
  · refine Ev.ite_pos h (Ev.bind (ev_l1All l 1 20 hn) (Ev.cast (Ev.now _) ?_))
    simp [goodItems, h]
  · refine Ev.ite_neg h (Ev.cast (Ev.now _) ?_)
    simp [goodItems, h]
theorem implGoodItems (l : List Int) : impl_GoodItems.f l = some (goodItems l) := by
  unfold impl_GoodItems.f
  by_cases h : (l.length : Int) ≤ 9
  · rw [if_pos h, allWithin_eq]
    simp [goodItems, h]
  · rw [if_neg h]
    simp [goodItems, h]
theorem goodItems_iff {l : List Int} (h : goodItems l = true) : l.length ≤ 9 ∧ ∀ x ∈ l, 1 ≤ x ∧ x ≤ 20 := by
  unfold goodItems at h
  rw [Bool.and_eq_true, decide_eq_true_iff, allIn_iff] at h
  exact ⟨by omega, h.2⟩


section
variable {α : Type}
/-- e among them: behind all that are no less. -/
def insR (v : α → Int) (e : α) : List α → List α
  | [] => [e]
  | x :: xs => if v x ≥ v e then x :: insR v e xs else e :: x :: xs
theorem insR_length (v : α → Int) (e : α) : ∀ p : List α, (insR v e p).length = p.length + 1
  | [] => rfl
  | x :: p => by
    rw [insR]
    split
    · rw [List.length_cons, insR_length v e p, List.length_cons]
    · rfl
theorem insR_snoc (v : α → Int) (e x : α) (h : v x < v e) : ∀ p : List α, insR v e (p ++ [x]) = insR v e p ++ [x]
  | [] => by
    show insR v e [x] = [e] ++ [x]
    rw [insR, if_neg (by omega)]
    rfl
  | y :: p => by
    show insR v e (y :: (p ++ [x])) = insR v e (y :: p) ++ [x]
    rw [insR, insR]
    split
    · rw [insR_snoc v e x h p]; rfl
    · rfl
theorem insR_all (v : α → Int) (e : α) : ∀ p : List α, (∀ y ∈ p, v y ≥ v e) → insR v e p = p ++ [e]
  | [], _ => rfl
  | y :: p, h => by
    rw [insR, if_pos (h y (by simp)), insR_all v e p (fun z hz => h z (by simp [hz]))]
    rfl
theorem mem_insR (v : α → Int) (e y : α) : ∀ p : List α, y ∈ insR v e p ↔ y = e ∨ y ∈ p
  | [] => by simp [insR]
  | x :: p => by
    rw [insR]
    split
    · rw [List.mem_cons, mem_insR v e y p, List.mem_cons]
      constructor
      · rintro (h | h | h)
        · exact .inr (.inl h)
        · exact .inl h
        · exact .inr (.inr h)
      · rintro (h | h | h)
        · exact .inr (.inl h)
        · exact .inl h
        · exact .inr (.inr h)
    · rw [List.mem_cons]
def Falls (v : α → Int) (p : List α) : Prop := p.Pairwise fun a b => v a ≥ v b
theorem Falls.ins (v : α → Int) (e : α) : ∀ p : List α, Falls v p → Falls v (insR v e p)
  | [], _ => by simp [insR, Falls]
  | x :: p, h => by
    unfold Falls at h
    rw [List.pairwise_cons] at h
    rw [insR]
    split
    · unfold Falls
      rw [List.pairwise_cons]
      refine ⟨fun y hy => ?_, Falls.ins v e p h.2⟩
      rcases (mem_insR v e y p).1 hy with rfl | hy
      · assumption
      · exact h.1 y hy
    · unfold Falls
      rw [List.pairwise_cons]
      refine ⟨fun y hy => ?_, by rw [List.pairwise_cons]; exact h⟩
      rcases List.mem_cons.1 hy with rfl | hy
      · omega
      · have := h.1 y hy; omega
theorem insR_map {β : Type} (v : α → Int) (v' : β → Int) (f : α → β) (h : ∀ x, v x = v' (f x)) (e : α) : ∀ p : List α, (insR v e p).map f = insR v' (f e) (p.map f)
  | [] => rfl
  | x :: p => by
    rw [List.map_cons, insR, insR, ← h, ← h]
    split
    · rw [List.map_cons, insR_map v v' f h e p]
    · rfl
theorem foldIns_map {β : Type} (v : α → Int) (v' : β → Int) (f : α → β) (h : ∀ x, v x = v' (f x)) : ∀ (s q : List α), (s.foldl (fun q e => insR v e q) q).map f = (s.map f).foldl (fun q e => insR v' e q) (q.map f)
  | [], q => rfl
  | e :: s, q => by
    rw [List.foldl_cons, List.map_cons, List.foldl_cons, ← insR_map v v' f h, foldIns_map v v' f h s]
theorem arr_mid [Inhabited α] {d : Array α} {p s : List α} {x : α} (h : d.toList = p ++ x :: s) : d[p.length]! = x := by
  have hs : p.length < d.size := by rw [← Array.length_toList, h]; simp
  rw [getElem!_pos d p.length hs, ← Array.getElem_toList]
  simp [h]
theorem swp_list [Inhabited α] {d : Array α} {p s : List α} {x e : α} (h : d.toList = p ++ x :: e :: s) : (Go.Sort.swp d (p.length + 1) p.length).toList = p ++ e :: x :: s := by
  have h1 : d[p.length]! = x := arr_mid h
  have h2 : d[p.length + 1]! = e := by
    have := arr_mid (d := d) (p := p ++ [x]) (s := s) (x := e) (by rw [h]; simp)
    simpa using this
  unfold Go.Sort.swp
  rw [h1, h2, Array.toList_setIfInBounds, Array.toList_setIfInBounds, h]
  rw [List.set_append_right _ _ (by omega), show p.length + 1 - p.length = 1 by omega]
  rw [List.set_append_right _ _ (by omega), Nat.sub_self]
  rfl
theorem insInner_list [Inhabited α] (v : α → Int) (lt : α → α → Bool) (hlt : ∀ x y, lt x y = decide (v y < v x)) : ∀ (N : Nat) (p : List α) (e : α) (s : List α) (d : Array α), p.length = N → d.toList = p ++ e :: s → Falls v p → (Go.Sort.insInner lt 0 p.length d).toList = insR v e p ++ s
  | 0, p, e, s, d, hN, hd, hp => by
    obtain rfl : p = [] := List.length_eq_zero_iff.1 hN
    exact hd
  | N + 1, p, e, s, d, hN, hd, hp => by
    rcases List.eq_nil_or_concat p with rfl | ⟨p', x, rfl⟩
    · simp at hN
    · rw [List.concat_eq_append] at *
      have hd' : d.toList = p' ++ x :: e :: s := by rw [hd]; simp
      have h1 : d[p'.length]! = x := arr_mid hd'
      have h2 : d[p'.length + 1]! = e := by
        have := arr_mid (d := d) (p := p' ++ [x]) (s := s) (x := e) (by rw [hd])
        simpa using this
      have hl : (p' ++ [x]).length = p'.length + 1 := by simp
      unfold Falls at hp
      rw [List.pairwise_append] at hp
      rw [hl, Go.Sort.insInner, h1, h2, hlt]
      by_cases c : v x < v e
      · rw [if_pos (by simp [c])]
        have ih := insInner_list v lt hlt N p' e (x :: s) (Go.Sort.swp d (p'.length + 1) p'.length) (by rw [hl] at hN; omega) (swp_list hd') hp.1
        rw [ih, insR_snoc v e x c]
        simp
      · rw [if_neg (by simp [c])]
        rw [insR_all v e (p' ++ [x]) (fun y hy => ?_), hd]
        · simp
        · rcases List.mem_append.1 hy with hy | hy
          · have := hp.2.2 y hy x (by simp); omega
          · rw [List.mem_singleton.1 hy]; omega
theorem insOuter_list [Inhabited α] (v : α → Int) (lt : α → α → Bool) (hlt : ∀ x y, lt x y = decide (v y < v x)) : ∀ (s q : List α) (d : Array α) (b : Nat), d.toList = q ++ s → b = q.length + s.length → Falls v q → (Go.Sort.insOuter lt 0 b q.length d).toList = s.foldl (fun q e => insR v e q) q
  | [], q, d, b, hd, hb, hq => by
    rw [Go.Sort.insOuter, if_neg (by simp at hb; omega), hd]
    simp
  | e :: s, q, d, b, hd, hb, hq => by
    rw [List.length_cons] at hb
    rw [Go.Sort.insOuter, if_pos (by omega)]
    have h1 := insInner_list v lt hlt q.length q e s d rfl hd hq
    have ih := insOuter_list v lt hlt s (insR v e q) (Go.Sort.insInner lt 0 q.length d) b h1 (by rw [insR_length]; omega) (Falls.ins v e q hq)
    rw [insR_length] at ih
    exact ih
theorem insSort_list [Inhabited α] (v : α → Int) (lt : α → α → Bool) (hlt : ∀ x y, lt x y = decide (v y < v x)) (d : Array α) (n : Nat) (hn : d.size = n + 1) : (Go.Sort.insertionSort lt d 0 (n + 1)).toList = d.toList.foldl (fun q e => insR v e q) [] := by
  obtain ⟨x, l, e⟩ : ∃ x l, d.toList = x :: l := by
    cases h : d.toList with
    | nil => rw [← Array.length_toList, h] at hn; simp at hn
    | cons x l => exact ⟨x, l, rfl⟩
  have hl : l.length = n := by rw [← Array.length_toList, e] at hn; simpa using hn
  have := insOuter_list v lt hlt l [x] d (n + 1) (by rw [e]; rfl) (by simp; omega) (by simp [Falls])
  rw [e, List.foldl_cons]
  exact this
end
/-- The items' numbers, in falling order of the items. -/
def ranks (l : List Int) : List Int := ((List.range l.length).map fun (j : Nat) => (j : Int)).foldl (fun q e => insR (rd l) e q) []
theorem implRank (l : List Int) (hl : l.length ≤ 9) (hb : ∀ x ∈ l, 1 ≤ x ∧ x ≤ 20) : impl_rank.f l = some (ranks l) := by
  unfold impl_rank.f
  split
  · next h =>
    rw [List.length_eq_zero_iff] at h
    subst h
    rfl
  · next n h =>
    rw [if_pos (by omega)]
    congr 1
    unfold impl_rank.ranked
    rw [insSort_list (fun x => rd l (impl_rank.ix x)) _ (fun x y => ?_) _ n (by simp [impl_rank.up])]
    · rw [foldIns_map (fun x => rd l (impl_rank.ix x)) (rd l) impl_rank.ix (fun _ => rfl), impl_rank.upL_up]
      unfold ranks impl_rank.upL
      rw [h]
      rfl
    · unfold ltOf impl_rank.cf impl_rank.ix
      have hx := hb (rd l (x.val : Int)) (by unfold rd; exact getD_mem _ (by have := x.isLt; omega))
      have hy := hb (rd l (y.val : Int)) (by unfold rd; exact getD_mem _ (by have := y.isLt; omega))
      rw [show wrap64 (rd l (y.val : Int) - rd l (x.val : Int)) = rd l (y.val : Int) - rd l (x.val : Int) by unfold wrap64; omega]
      congr 1
      apply propext
      omega
theorem ranks_in (l : List Int) : (ranks l).length = l.length ∧ ∀ y ∈ ranks l, 0 ≤ y ∧ y < (l.length : Int) := by
  have key : ∀ (s q : List Int), (∀ y ∈ s, 0 ≤ y ∧ y < (l.length : Int)) → (∀ y ∈ q, 0 ≤ y ∧ y < (l.length : Int)) → (s.foldl (fun q e => insR (rd l) e q) q).length = q.length + s.length ∧ ∀ y ∈ s.foldl (fun q e => insR (rd l) e q) q, 0 ≤ y ∧ y < (l.length : Int) := by
    intro s
    induction s with
    | nil => intro q _ hq; exact ⟨by simp, hq⟩
    | cons e s ih =>
      intro q hs hq
      rw [List.foldl_cons]
      have := ih (insR (rd l) e q) (fun y hy => hs y (by simp [hy])) (fun y hy => by
        rcases (mem_insR _ _ _ _).1 hy with rfl | hy
        · exact hs y (by simp)
        · exact hq y hy)
      refine ⟨by rw [this.1, insR_length, List.length_cons]; omega, this.2⟩
  have := key ((List.range l.length).map fun (j : Nat) => (j : Int)) [] (fun y hy => by
    obtain ⟨j, hj, rfl⟩ := List.mem_map.1 hy
    have := List.mem_range.1 hj
    omega) (fun y hy => absurd hy (by simp))
  refine ⟨by unfold ranks; rw [this.1]; simp, this.2⟩
def sumB (l b : List Int) : Int := impl_firstFit.fillS l 0 b
theorem fillS_snoc (l : List Int) (v : Int) : ∀ (b : List Int) (s : Int), impl_firstFit.fillS l s (b ++ [v]) = wrap64 (impl_firstFit.fillS l s b + rd l v)
  | [], s => rfl
  | x :: b, s => by
    show impl_firstFit.fillS l (wrap64 (s + rd l x)) (b ++ [v]) = _
    rw [fillS_snoc l v b]
    rfl
def lefts (l : List Int) (boxes : List (List Int)) : List Int := boxes.map fun b => 20 - sumB l b
structure Boxes (l : List Int) (m : Nat) (boxes : List (List Int)) : Prop where
  len : boxes.length ≤ m
  box : ∀ b ∈ boxes, impl_firstFit.okB l b = true ∧ b.length ≤ m ∧ 0 ≤ sumB l b ∧ sumB l b ≤ 20
theorem first_hit {α : Type} (p : α → Bool) : ∀ l : List α, (∀ x ∈ l, p x = false) ∨ ∃ a b s, l = a ++ b :: s ∧ p b = true ∧ ∀ c ∈ a, p c = false
  | [] => .inl fun x hx => absurd hx (by simp)
  | x :: l => by
    cases h : p x with
    | true => exact .inr ⟨[], x, l, rfl, h, fun c hc => absurd hc (by simp)⟩
    | false =>
      rcases first_hit p l with h2 | ⟨a, b, s, e, h3, h4⟩
      · refine .inl fun y hy => ?_
        rcases List.mem_cons.1 hy with rfl | hy
        · exact h
        · exact h2 y hy
      · refine .inr ⟨x :: a, b, s, by rw [e]; rfl, h3, fun c hc => ?_⟩
        rcases List.mem_cons.1 hc with rfl | hc
        · exact h
        · exact h4 c hc
theorem idxP_no {α : Type} {p : α → Bool} {l : List α} (h : ∀ x ∈ l, p x = false) : idxP p l = -1 := by
  unfold idxP
  rw [List.findIdx?_eq_none_iff.2 h]
theorem idxP_at {α : Type} {p : α → Bool} {a s : List α} {b : α} (hb : p b = true) (ha : ∀ c ∈ a, p c = false) : idxP p (a ++ b :: s) = (a.length : Int) := by
  refine idxP_hit (k := a.length) b (by simp) (by simp [hb]) (fun j hj => ?_)
  rw [List.getD_eq_getElem?_getD, List.getElem?_append_left hj, List.getElem?_eq_getElem hj]
  exact ha _ (List.getElem_mem hj)
theorem fits_iff {l : List Int} {v : Int} {b : List Int} (h0 : 0 ≤ sumB l b) (h1 : sumB l b ≤ 20) (hv : 1 ≤ rd l v ∧ rd l v ≤ 20) : impl_firstFit.fits l v b = true ↔ ¬ 20 - sumB l b < rd l v := by
  unfold impl_firstFit.fits
  rw [decide_eq_true_eq]
  show wrap64 (sumB l b + rd l v) ≤ 20 ↔ _
  rw [show wrap64 (sumB l b + rd l v) = sumB l b + rd l v by unfold wrap64; omega]
  omega
theorem sumB_snoc {l : List Int} {v : Int} {b : List Int} (h0 : 0 ≤ sumB l b) (h1 : sumB l b ≤ 20) (hv : 1 ≤ rd l v ∧ rd l v ≤ 20) : sumB l (b ++ [v]) = sumB l b + rd l v := by
  show impl_firstFit.fillS l 0 (b ++ [v]) = _
  rw [fillS_snoc]
  show wrap64 (sumB l b + rd l v) = _
  unfold wrap64
  omega
theorem seek_none (l o : List Int) (i : Nat) (hi : i ≤ 9) (v : Int) (hvr : 0 ≤ v ∧ v < (l.length : Int)) (hv : 1 ≤ rd l v ∧ rd l v ≤ 20) (R boxes : List (List Int)) (hB : Boxes l i boxes) (hno : ∀ b ∈ boxes, impl_firstFit.fits l v b = false)
    (h : Ev (fun k => spec_l12Fill.l0 k l (boxes ++ [[v]]) (lefts l (boxes ++ [[v]])) o (o.length : Int) ((i + 1 : Nat) : Int)) R) : ∀ (bs bp : List (List Int)), boxes = bp ++ bs → Ev (fun k => spec_l12Fill.l1 k l boxes (lefts l boxes) v (bp.length : Int) o (o.length : Int) (i : Int)) R
  | [], bp, e => by
    have hw : wrap64 ((i : Int) + 1) = ((i + 1 : Nat) : Int) := by unfold wrap64; omega
    have e' : boxes = bp := by rw [e]; simp
    subst e'
    have hl := hB.len
    have hll : (lefts l boxes).length = boxes.length := by simp [lefts]
    have r1 : rd_L1 (boxes ++ [[]]) (boxes.length : Int) = [] := rdL_mid boxes [] []
    have r2 : rd (lefts l boxes ++ [20]) (boxes.length : Int) = 20 := by rw [← hll]; exact rd_mid _ [] 20
    have s1 : (boxes ++ [([] : List Int)]).set boxes.length [v] = boxes ++ [[v]] := by rw [List.set_append_right _ _ (Nat.le_refl _), Nat.sub_self]; rfl
    have s2 : (lefts l boxes ++ [20]).set boxes.length (20 - rd l v) = lefts l (boxes ++ [[v]]) := by
      rw [List.set_append_right _ _ (by omega), hll, Nat.sub_self]
      unfold lefts
      rw [List.map_append]
      have : sumB l [v] = rd l v := by
        show wrap64 (0 + rd l v) = _
        unfold wrap64
        omega
      simp [this]
    refine Ev.round (fun k => by simp only [spec_l12Fill.l1]; rw [if_neg (by omega), if_pos trivial]) ?_
    simp only [Option.bind_some, List.nil_append, Int.toNat_natCast, r1, r2, hw, List.length_nil]
    refine Ev.ite_pos (by omega) (Ev.ite_pos (by omega) (Ev.ite_pos (by omega) (Ev.ite_pos (by simp; omega) (Ev.ite_pos (by omega) (Ev.ite_pos (by omega) (Ev.ite_pos (by simp; omega) (Ev.ite_pos hvr.1 (Ev.ite_pos hvr.2 ?_))))))))
    rw [show wrap64 (20 - rd l v) = 20 - rd l v by unfold wrap64; omega, s1, s2]
    exact h
  | b :: bs, bp, e => by
    have hl := hB.len
    have hbl : boxes.length = bp.length + (bs.length + 1) := by rw [e]; simp
    have hb := hB.box b (by rw [e]; simp)
    have hll : (lefts l boxes).length = boxes.length := by simp [lefts]
    have hr : rd (lefts l boxes) (bp.length : Int) = 20 - sumB l b := by
      rw [e]
      unfold lefts
      rw [List.map_append, List.map_cons, show (bp.length : Int) = ((bp.map fun b => 20 - sumB l b).length : Int) by simp]
      exact rd_mid _ _ _
    have hf := hno b (by rw [e]; simp)
    have hlt : 20 - sumB l b < rd l v := by
      exact Decidable.not_not.1 fun h' => by rw [(fits_iff hb.2.2.1 hb.2.2.2 hv).2 h'] at hf; cases hf
    have ih := seek_none l o i hi v hvr hv R boxes hB hno h bs (bp ++ [b]) (by rw [e]; simp)
    refine Ev.round (fun k => by simp only [spec_l12Fill.l1]; rw [if_pos (by omega), if_pos (by omega), if_pos (by omega), if_pos hvr.1, if_pos hvr.2, hr, if_pos hlt, show wrap64 ((bp.length : Int) + 1) = ((bp ++ [b]).length : Int) by rw [List.length_append, List.length_singleton]; unfold wrap64; omega]) ih
theorem seek_hit (l o : List Int) (i : Nat) (hi : i ≤ 9) (v : Int) (hvr : 0 ≤ v ∧ v < (l.length : Int)) (hv : 1 ≤ rd l v ∧ rd l v ≤ 20) (R p s : List (List Int)) (b : List Int) (hB : Boxes l i (p ++ b :: s)) (hb : impl_firstFit.fits l v b = true) (hno : ∀ b ∈ p, impl_firstFit.fits l v b = false)
    (h : Ev (fun k => spec_l12Fill.l0 k l (p ++ (b ++ [v]) :: s) (lefts l (p ++ (b ++ [v]) :: s)) o (o.length : Int) ((i + 1 : Nat) : Int)) R) : ∀ (bs bp : List (List Int)), p = bp ++ bs → Ev (fun k => spec_l12Fill.l1 k l (p ++ b :: s) (lefts l (p ++ b :: s)) v (bp.length : Int) o (o.length : Int) (i : Int)) R
  | [], bp, e => by
    have hw : wrap64 ((i : Int) + 1) = ((i + 1 : Nat) : Int) := by unfold wrap64; omega
    have e' : p = bp := by rw [e]; simp
    subst e'
    have hl := hB.len
    rw [List.length_append, List.length_cons] at hl
    have hbb := hB.box b (by simp)
    have hll : (lefts l (p ++ b :: s)).length = p.length + (s.length + 1) := by simp [lefts]
    have hlf : lefts l (p ++ b :: s) = lefts l p ++ (20 - sumB l b) :: lefts l s := by simp [lefts]
    have hlp : (lefts l p).length = p.length := by simp [lefts]
    have hr : rd (lefts l (p ++ b :: s)) (p.length : Int) = 20 - sumB l b := by rw [hlf, ← hlp]; exact rd_mid _ _ _
    have r1 : rd_L1 (p ++ b :: s) (p.length : Int) = b := rdL_mid _ _ _
    have hge := (fits_iff hbb.2.2.1 hbb.2.2.2 hv).1 hb
    have s1 : (p ++ b :: s).set p.length (b ++ [v]) = p ++ (b ++ [v]) :: s := by rw [List.set_append_right _ _ (Nat.le_refl _), Nat.sub_self]; rfl
    have s2 : (lefts l (p ++ b :: s)).set p.length (20 - sumB l b - rd l v) = lefts l (p ++ (b ++ [v]) :: s) := by
      rw [hlf, List.set_append_right _ _ (by omega), hlp, Nat.sub_self, List.set_cons_zero]
      unfold lefts
      rw [List.map_append, List.map_cons, sumB_snoc hbb.2.2.1 hbb.2.2.2 hv, show 20 - sumB l b - rd l v = 20 - (sumB l b + rd l v) by omega]
    have hpl : (p ++ b :: s).length = p.length + (s.length + 1) := by simp
    refine Ev.round (fun k => by simp only [spec_l12Fill.l1]; rw [if_pos (by omega), if_pos (by omega), if_pos (by omega), if_pos hvr.1, if_pos hvr.2, hr, if_neg hge, if_neg (by omega)]) ?_
    simp only [Option.bind_some, List.nil_append, Int.toNat_natCast, r1, hw, List.length_nil, Nat.zero_add]
    refine Ev.ite_pos (by omega) (Ev.ite_pos (by omega) ?_)
    rw [show wrap64 (20 - sumB l b - rd l v) = 20 - sumB l b - rd l v by unfold wrap64; omega, s1, s2]
    exact h
  | c :: bs, bp, e => by
    have hl := hB.len
    have hbl : (p ++ b :: s).length = bp.length + (bs.length + 1) + (s.length + 1) := by rw [e]; simp; omega
    have hb2 := hB.box c (by rw [e]; simp)
    have hll : (lefts l (p ++ b :: s)).length = (p ++ b :: s).length := by simp [lefts]
    have hr : rd (lefts l (p ++ b :: s)) (bp.length : Int) = 20 - sumB l c := by
      rw [e, show bp ++ c :: bs ++ b :: s = bp ++ c :: (bs ++ b :: s) by simp]
      unfold lefts
      rw [List.map_append, List.map_cons, show (bp.length : Int) = ((bp.map fun b => 20 - sumB l b).length : Int) by simp]
      exact rd_mid _ _ _
    have hf := hno c (by rw [e]; simp)
    have hlt : 20 - sumB l c < rd l v := by
      exact Decidable.not_not.1 fun h' => by rw [(fits_iff hb2.2.2.1 hb2.2.2.2 hv).2 h'] at hf; cases hf
    have ih := seek_hit l o i hi v hvr hv R p s b hB hb hno h bs (bp ++ [c]) (by rw [e]; simp)
    refine Ev.round (fun k => by simp only [spec_l12Fill.l1]; rw [if_pos (by omega), if_pos (by omega), if_pos (by omega), if_pos hvr.1, if_pos hvr.2, hr, if_pos hlt, show wrap64 ((bp.length : Int) + 1) = ((bp ++ [c]).length : Int) by rw [List.length_append, List.length_singleton]; unfold wrap64; omega]) ih
theorem okB_snoc {l b : List Int} {v : Int} (h : impl_firstFit.okB l b = true) (hv : 0 ≤ v ∧ v < (l.length : Int)) : impl_firstFit.okB l (b ++ [v]) = true := by
  unfold impl_firstFit.okB at h ⊢
  rw [List.all_append, h]
  simp [hv.1, hv.2]
theorem fill_go (l o : List Int) (hl : l.length ≤ 9) (ho : o.length ≤ 9) (hb : ∀ x ∈ l, 1 ≤ x ∧ x ≤ 20) (hor : ∀ y ∈ o, 0 ≤ y ∧ y < (l.length : Int)) : ∀ (suf pre : List Int) (boxes : List (List Int)), o = pre ++ suf → Boxes l pre.length boxes →
    ∃ R, Boxes l o.length R ∧ Ev (fun k => spec_l12Fill.l0 k l boxes (lefts l boxes) o (o.length : Int) (pre.length : Int)) R ∧ Ev (fun k => impl_firstFit.l0 k l boxes o (o.length : Int) (pre.length : Int)) R
  | [], pre, boxes, e, hB => by
    have e' : o = pre := by rw [e]; simp
    subst e'
    exact ⟨boxes, hB, Ev.round (f := fun _ => some boxes) (fun k => by simp only [spec_l12Fill.l0]; rw [if_neg (by omega)]) (Ev.now _), Ev.round (f := fun _ => some boxes) (fun k => by simp only [impl_firstFit.l0]; rw [if_neg (by omega)]) (Ev.now _)⟩
  | v :: suf, pre, boxes, e, hB => by
    have hol : o.length = pre.length + (suf.length + 1) := by rw [e]; simp
    have hr : rd o (pre.length : Int) = v := by rw [e]; exact rd_mid _ _ _
    have hvr := hor v (by rw [e]; simp)
    have hv : 1 ≤ rd l v ∧ rd l v ≤ 20 := hb _ (by unfold rd; exact getD_mem _ (by omega))
    have hw : wrap64 ((pre.length : Int) + 1) = ((pre ++ [v]).length : Int) := by rw [List.length_append, List.length_singleton]; unfold wrap64; omega
    have hpl : (pre ++ [v]).length = pre.length + 1 := by simp
    have hbl := hB.len
    have hidx : impl_firstFit.idx l v boxes = some (idxP (impl_firstFit.fits l v) boxes) := if_pos ⟨hvr, fun x hx => (hB.box x hx).1⟩
    rcases first_hit (impl_firstFit.fits l v) boxes with hno | ⟨p, b, s, rfl, hb2, hno⟩
    · have hB' : Boxes l (pre ++ [v]).length (boxes ++ [[v]]) := by
        refine ⟨by simp; omega, fun c hc => ?_⟩
        rcases List.mem_append.1 hc with hc | hc
        · have := hB.box c hc
          exact ⟨this.1, by omega, this.2.2⟩
        · rw [List.mem_singleton.1 hc]
          have : sumB l [v] = rd l v := by
            show wrap64 (0 + rd l v) = _
            unfold wrap64
            omega
          refine ⟨by simp [impl_firstFit.okB, hvr.1, hvr.2], by simp, by omega, by omega⟩
      obtain ⟨R, r1, r2, r3⟩ := fill_go l o hl ho hb hor suf (pre ++ [v]) (boxes ++ [[v]]) (by rw [e]; simp) hB'
      refine ⟨R, r1, ?_, ?_⟩
      · refine Ev.round (fun k => by simp only [spec_l12Fill.l0]; rw [if_pos (by omega), if_pos (by omega), if_pos (by omega), hr]) ?_
        rw [hpl] at r2
        exact seek_none l o pre.length (by omega) v hvr hv R boxes hB hno r2 boxes [] rfl
      · refine Ev.round (fun k => by simp only [impl_firstFit.l0]; rw [if_pos (by omega), if_pos (by omega), if_pos (by omega), hr, hidx, idxP_no hno, Option.bind_some, if_pos (by decide), hw]) ?_
        exact Ev.ite_pos (by omega) r3
    · have hbb := hB.box b (by simp)
      have hge := (fits_iff hbb.2.2.1 hbb.2.2.2 hv).1 hb2
      have hlen : (p ++ b :: s).length = p.length + (s.length + 1) := by simp
      have hB' : Boxes l (pre ++ [v]).length (p ++ (b ++ [v]) :: s) := by
        refine ⟨by simp; rw [hlen] at hbl; omega, fun c hc => ?_⟩
        rcases List.mem_append.1 hc with hc | hc
        · have := hB.box c (by simp [hc])
          exact ⟨this.1, by omega, this.2.2⟩
        · rcases List.mem_cons.1 hc with rfl | hc
          · have hs := sumB_snoc hbb.2.2.1 hbb.2.2.2 hv
            exact ⟨okB_snoc hbb.1 hvr, by simp; omega, by omega, by omega⟩
          · have := hB.box c (by simp [hc])
            exact ⟨this.1, by omega, this.2.2⟩
      obtain ⟨R, r1, r2, r3⟩ := fill_go l o hl ho hb hor suf (pre ++ [v]) (p ++ (b ++ [v]) :: s) (by rw [e]; simp) hB'
      refine ⟨R, r1, ?_, ?_⟩
      · refine Ev.round (fun k => by simp only [spec_l12Fill.l0]; rw [if_pos (by omega), if_pos (by omega), if_pos (by omega), hr]) ?_
        rw [hpl] at r2
        exact seek_hit l o pre.length (by omega) v hvr hv R p s b hB hb2 hno r2 p [] rfl
      · have s1 : (p ++ b :: s).set p.length (b ++ [v]) = p ++ (b ++ [v]) :: s := by rw [List.set_append_right _ _ (Nat.le_refl _), Nat.sub_self]; rfl
        refine Ev.round (fun k => by simp only [impl_firstFit.l0]; rw [if_pos (by omega), if_pos (by omega), if_pos (by omega), hr, hidx, idxP_at hb2 hno, Option.bind_some, if_neg (by omega), if_pos (by omega), if_pos (by omega), rdL_mid, Int.toNat_natCast, s1, hw]) ?_
        exact Ev.ite_pos (by omega) r3
theorem same_fill (l o : List Int) (hl : l.length ≤ 9) (ho : o.length ≤ 9) (hb : ∀ x ∈ l, 1 ≤ x ∧ x ≤ 20) (hor : ∀ y ∈ o, 0 ≤ y ∧ y < (l.length : Int)) :
    ∃ R : List (List Int), (R.length ≤ 9 ∧ ∀ x ∈ R, x.length ≤ 9) ∧ Ev (fun k => spec_l12Fill.f k l o) R ∧ Ev (fun k => impl_firstFit.f k l o) R := by
  obtain ⟨R, r1, r2, r3⟩ := fill_go l o hl ho hb hor o [] [] rfl ⟨by simp, fun b hb => absurd hb (by simp)⟩
  exact ⟨R, ⟨by have := r1.len; omega, fun x hx => by have := (r1.box x hx).2.1; omega⟩, r2, r3⟩
def numbers (n : Nat) : List Int := (List.range n).map fun (j : Nat) => (j : Int)
theorem numbers_succ (n : Nat) : numbers (n + 1) = numbers n ++ [(n : Int)] := by
  unfold numbers
  rw [List.range_succ, List.map_append]
  rfl
theorem numbers_length (n : Nat) : (numbers n).length = n := by simp [numbers]
theorem mem_numbers {n : Nat} {y : Int} : y ∈ numbers n ↔ 0 ≤ y ∧ y < (n : Int) := by
  unfold numbers
  rw [List.mem_map]
  constructor
  · rintro ⟨j, hj, rfl⟩
    have := List.mem_range.1 hj
    omega
  · intro h
    exact ⟨y.toNat, List.mem_range.2 (by omega), by omega⟩
theorem numbers_sorted (n : Nat) : (numbers n).Pairwise fun a b => a ≤ b := by
  induction n with
  | zero => simp [numbers]
  | succ n ih =>
    rw [numbers_succ, List.pairwise_append]
    refine ⟨ih, by simp, fun a ha b hb => ?_⟩
    have := (mem_numbers.1 ha).2
    rw [List.mem_singleton.1 hb]
    omega
theorem insR_perm {α : Type} (v : α → Int) (e : α) : ∀ p : List α, (insR v e p).Perm (e :: p)
  | [] => List.Perm.refl _
  | x :: p => by
    rw [insR]
    split
    · exact ((insR_perm v e p).cons x).trans (List.Perm.swap e x p)
    · exact List.Perm.refl _
theorem foldIns_perm {α : Type} (v : α → Int) : ∀ s q : List α, (s.foldl (fun q e => insR v e q) q).Perm (s ++ q)
  | [], q => List.Perm.refl _
  | e :: s, q => by
    rw [List.foldl_cons]
    refine (foldIns_perm v s (insR v e q)).trans ?_
    refine ((insR_perm v e q).append_left s).trans ?_
    exact List.perm_middle
theorem ranks_perm (l : List Int) : (ranks l).Perm (numbers l.length) := by
  have := foldIns_perm (rd l) (numbers l.length) []
  rw [List.append_nil] at this
  exact this
theorem sorted_one : ∀ l1 l2 : List Int, l1.Perm l2 → (l1.Pairwise fun a b => a ≤ b) → (l2.Pairwise fun a b => a ≤ b) → l1 = l2
  | [], l2, h, _, _ => by
    have := h.length_eq
    exact (List.length_eq_zero_iff.1 (by simpa using this.symm)).symm
  | a :: l1, l2, h, h1, h2 => by
    cases l2 with
    | nil => have := h.length_eq; simp at this
    | cons b l2 =>
      rw [List.pairwise_cons] at h1 h2
      have ha : a ∈ b :: l2 := h.subset (by simp)
      have hb : b ∈ a :: l1 := h.symm.subset (by simp)
      have hab : a = b := by
        rcases List.mem_cons.1 ha with e | ha
        · exact e
        · rcases List.mem_cons.1 hb with e | hb
          · exact e.symm
          · have := h1.1 b hb
            have := h2.1 a ha
            omega
      subst hab
      rw [sorted_one l1 l2 h.cons_inv h1.2 h2.2]
theorem sortI_ranks (l : List Int) : sortI (ranks l) = numbers l.length := by
  refine sorted_one _ _ ((List.mergeSort_perm _ _).trans (ranks_perm l)) ?_ (numbers_sorted _)
  have := List.pairwise_mergeSort (le := fun x y : Int => decide (x ≤ y)) (fun a b c h1 h2 => by simp at h1 h2 ⊢; omega) (fun a b => by simp; omega) (ranks l)
  exact this.imp (by intro a b h; simpa using h)
theorem ev_Numbers_go (n : Nat) (hn : n ≤ 9) : ∀ (m i : Nat), i + m = n → Ev (fun k => spec_l12Numbers.l0 k (n : Int) (numbers i) (i : Int)) (numbers n)
  | 0, i, h => by
    obtain rfl : i = n := by omega
    exact Ev.round (f := fun _ => some (numbers i)) (fun k => by simp only [spec_l12Numbers.l0]; rw [if_neg (by omega)]) (Ev.now _)
  | m + 1, i, h => by
    have ih := ev_Numbers_go n hn m (i + 1) (by omega)
    rw [numbers_succ] at ih
    refine Ev.round (fun k => by simp only [spec_l12Numbers.l0]; rw [if_pos (by omega), show wrap64 ((i : Int) + 1) = ((i + 1 : Nat) : Int) by unfold wrap64; omega]) ?_
    exact Ev.ite_pos (by rw [numbers_length]; omega) ih
theorem ev_Numbers (n : Nat) (hn : n ≤ 9) : Ev (fun k => spec_l12Numbers.f k (n : Int)) (numbers n) := ev_Numbers_go n hn n 0 (by omega)
theorem same_FirstFit (l : List Int) (hn : l.length ≤ 9223372036854775807) : ∃ (R : List (List Int)) (b : Bool), (R.length ≤ 9 ∧ ∀ x ∈ R, x.length ≤ 9) ∧ Ev (fun k => spec_FirstFit.f k l) (R, b) ∧ Ev (fun k => impl_FirstFit.f k l) (R, b) := by
  unfold spec_FirstFit.f impl_FirstFit.f
  by_cases hg : goodItems l = true
  · have h := goodItems_iff hg
    have hr := ranks_in l
    obtain ⟨R, r1, r2, r3⟩ := same_fill l (numbers l.length) h.1 (by rw [numbers_length]; omega) h.2 (fun y hy => mem_numbers.1 hy)
    refine ⟨R, true, r1, Ev.bind (ev_GoodItems l hn) (Ev.ite_pos hg (Ev.bind (ev_Numbers l.length h.1) (Ev.bind r2 (Ev.now _)))), Ev.bindc (implGoodItems l) (Ev.ite_pos hg (Ev.bindc (implRank l h.1 h.2) (Ev.ite_pos (by omega) ?_)))⟩
    rw [sortI_ranks]
    exact Ev.bind r3 (Ev.now _)
  · exact ⟨[], false, ⟨by simp, by simp⟩, Ev.bind (ev_GoodItems l hn) (Ev.ite_neg hg (Ev.now _)), Ev.bindc (implGoodItems l) (Ev.ite_neg hg (Ev.now _))⟩
end Go.Proofs.Ytojoglgjfocgiaa.Pure
