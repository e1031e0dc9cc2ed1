import Derived.Test.YtojoglgjfocgiaaGLWasteOf0
import Derived.Test.YtojoglgjfocgiaaGLWasteOf1
import Derived.Test.YtojoglgjfocgiaaGLWasteOf2
import Derived.Test.YtojoglgjfocgiaaGLWasteOf3
import Derived.Test.YtojoglgjfocgiaaGLWasteOf4
namespace Go.Proofs.Ytojoglgjfocgiaa.Pure
open Go.RowKit Go.Proofs.Ytojoglgjfocgiaa.GLWasteOf Go.Proofs.YtojoglgjfocgiaaW.PrintWords Go.Proofs.YtojoglgjfocgiaaW.PrintLast Go.Proofs.YtojoglgjfocgiaaW.PrintMore Go.Proofs.YtojoglgjfocgiaaW.PrintOwn
set_option linter.unusedVariables false
set_option linter.unusedSimpArgs false
theorem Ev.bindc {α β : Type} {g : Option α} {f : Nat → α → Option β} {a : α} {r : β} (h : g = some a) (k : Ev (fun n => f n a) r) : Ev (fun n => g.bind (f n)) r := by
  subst h
  exact k
/-- One round. -/
theorem Ev.round {α : Type} {g f : Nat → Option α} {r : α} (h : ∀ k, g (k + 1) = f k) (k : Ev f r) : Ev g r := Ev.step h k
theorem Ev.eqv {α : Type} {g f : Nat → Option α} {r : α} (h : ∀ k, g k = f k) (k : Ev f r) : Ev g r := Ev.congr h k
theorem Ev.cast {α : Type} {g : Nat → Option α} {r r' : α} (h : Ev g r) (e : r = r') : Ev g r' := e ▸ h
theorem Ev.ite_pos {α : Type} {c : Prop} [Decidable c] {g f : Nat → Option α} {r : α} (hc : c) (k : Ev g r) : Ev (fun n => if c then g n else f n) r := by
  refine Ev.eqv (fun n => ?_) k
  rw [if_pos hc]
theorem Ev.ite_neg {α : Type} {c : Prop} [Decidable c] {g f : Nat → Option α} {r : α} (hc : ¬ c) (k : Ev f r) : Ev (fun n => if c then g n else f n) r := by
  refine Ev.eqv (fun n => ?_) k
  rw [if_neg hc]
theorem getD_mid {α : Type} (d : α) (pre suf : List α) (x : α) : (pre ++ x :: suf).getD (pre.length : Int).toNat d = x := by
  rw [Int.toNat_natCast, List.getD_eq_getElem?_getD, List.getElem?_append_right (Nat.le_refl _), Nat.sub_self]
  rfl
theorem rd_mid (pre suf : List Int) (x : Int) : rd (pre ++ x :: suf) (pre.length : Int) = x := getD_mid 0 pre suf x
theorem lt_mid {α : Type} (pre suf : List α) (x : α) : (pre.length : Int) < ((pre ++ x :: suf).length : Int) := by
  rw [List.length_append, List.length_cons]; omega
theorem up_mid {α : Type} (pre suf : List α) (x : α) (h : (pre ++ x :: suf).length ≤ 9223372036854775807) : wrap64 ((pre.length : Int) + 1) = ((pre ++ [x]).length : Int) := by
  rw [List.length_append, List.length_cons] at h
  rw [List.length_append, List.length_singleton]
  unfold wrap64
  omega
theorem snoc_mid {α : Type} (pre suf : List α) (x : α) : pre ++ x :: suf = (pre ++ [x]) ++ suf := by simp
/-- All numbers lie between two. -/
def allIn (l : List Int) (lo hi : Int) : Bool := l.all fun n => decide (lo ≤ n) && decide (n ≤ hi)
theorem allIn_iff {l : List Int} {lo hi : Int} : allIn l lo hi = true ↔ ∀ x ∈ l, lo ≤ x ∧ x ≤ hi := by
  unfold allIn
  rw [List.all_eq_true]
  simp
/-- The sum, as Go's ints tell it. -/
def sumFrom (s : Int) : List Int → Int
  | [] => s
  | x :: l => sumFrom (wrap64 (s + x)) l
theorem ev_toIntS_l (l : List Int) (hn : l.length ≤ 35184372088832) : ∀ (suf pre : List Int), l = pre ++ suf → ∀ (z : List Int), z.length = suf.length → Ev (fun k => laws_toIntS.l0 k l (pre ++ z) (pre.length : Int)) l
  | [], pre, e, z, hz => by
    subst e
    have : z = [] := List.length_eq_zero_iff.1 hz
    subst this
    refine Ev.round (f := fun _ => some (pre ++ [])) (fun k => ?_) (Ev.now _)
    simp only [laws_toIntS.l0]
    rw [if_neg (by simp)]
  | x :: suf, pre, e, [], hz => by simp at hz
  | x :: suf, pre, e, y :: z, hz => by
    subst e
    have ih := ev_toIntS_l (pre ++ x :: suf) hn suf (pre ++ [x]) (snoc_mid _ _ _) z (by simpa using hz)
    refine Ev.round (fun k => ?_) ih
    simp only [laws_toIntS.l0]
    rw [if_pos (lt_mid _ _ _), if_pos (by omega), if_pos (lt_mid _ _ _), rd_mid, up_mid pre suf x (by omega)]
    congr 1
    rw [Int.toNat_natCast, List.set_append_right _ _ (Nat.le_refl _), Nat.sub_self, List.set_cons_zero]
    simp
theorem ev_toIntS (l : List Int) (hn : l.length ≤ 35184372088832) : Ev (fun k => laws_toIntS.f k l) l := by
  have h := ev_toIntS_l l hn l [] rfl (List.replicate l.length 0) (by simp)
  refine Ev.eqv (fun k => ?_) h
  unfold laws_toIntS.f
  rw [if_pos (by omega), Int.toNat_natCast, if_pos hn]
  rfl
theorem ev_eqIntS_l (a b : List Int) (hab : a.length = b.length) (hn : a.length ≤ 9223372036854775807) : ∀ (sa pa sb pb : List Int), a = pa ++ sa → b = pb ++ sb → pa.length = pb.length → Ev (fun k => laws_eqIntS.l0 k a b (pa.length : Int)) (decide (sa = sb))
  | [], pa, sb, pb, ea, eb, hp => by
    subst ea
    refine Ev.round (f := fun _ => some true) (fun k => ?_) (Ev.cast (Ev.now _) ?_)
    · simp only [laws_eqIntS.l0]
      rw [if_neg (by simp)]
    · have : sb = [] := by
        rw [eb] at hab
        simp at hab
        exact List.length_eq_zero_iff.1 (by omega)
      rw [this]; rfl
  | x :: sa, pa, [], pb, ea, eb, hp => by
    rw [ea, eb] at hab
    simp at hab
    omega
  | x :: sa, pa, y :: sb, pb, ea, eb, hp => by
    subst ea
    subst eb
    have h1 : ((pa.length : Nat) : Int) = (pb.length : Int) := by omega
    by_cases e : x = y
    · subst e
      have ih := ev_eqIntS_l (pa ++ x :: sa) (pb ++ x :: sb) hab hn sa (pa ++ [x]) sb (pb ++ [x]) (snoc_mid _ _ _) (snoc_mid _ _ _) (by simp [hp])
      refine Ev.round (fun k => ?_) (Ev.cast ih (by simp))
      simp only [laws_eqIntS.l0]
      rw [if_pos (lt_mid _ _ _), if_pos (by omega), if_pos (by rw [h1]; exact lt_mid _ _ _), rd_mid, h1, rd_mid, if_pos rfl, ← h1, up_mid _ _ _ hn]
    · refine Ev.round (f := fun _ => some false) (fun k => ?_) (Ev.cast (Ev.now _) (by simp [e]))
      simp only [laws_eqIntS.l0]
      rw [if_pos (lt_mid _ _ _), if_pos (by omega), if_pos (by rw [h1]; exact lt_mid _ _ _), rd_mid, h1, rd_mid, if_neg e]
theorem ev_eqIntS (a b : List Int) (hn : a.length ≤ 9223372036854775807) : Ev (fun k => laws_eqIntS.f k a b) (decide (a = b)) := by
  unfold laws_eqIntS.f
  by_cases h : a.length = b.length
  · exact Ev.ite_pos (by omega) (ev_eqIntS_l a b h hn a [] b [] rfl rfl rfl)
  · refine Ev.ite_neg (by omega) (Ev.cast (Ev.now _) ?_)
    rw [decide_eq_false]
    rintro rfl
    exact h rfl
theorem in_eq (a lo hi : Int) : spec_l1In.f a lo hi = some (decide (lo ≤ a) && decide (a ≤ hi)) := by
  unfold spec_l1In.f
  by_cases h : a ≥ lo
  · rw [if_pos h]; simp [h]
  · rw [if_neg h]; simp [h]
theorem ev_l1All_l (l : List Int) (lo hi : Int) (hn : l.length ≤ 9223372036854775807) : ∀ (suf pre : List Int), l = pre ++ suf → Ev (fun k => spec_l1All.l0 k lo hi l (l.length : Int) (pre.length : Int)) (allIn suf lo hi)
  | [], pre, e => by
    subst e
    refine Ev.round (f := fun _ => some true) (fun k => ?_) (Ev.now _)
    simp only [spec_l1All.l0]
    rw [if_neg (by simp)]
  | x :: suf, pre, e => by
    subst e
    by_cases c : (decide (lo ≤ x) && decide (x ≤ hi)) = true
    · have ih := ev_l1All_l (pre ++ x :: suf) lo hi hn suf (pre ++ [x]) (snoc_mid _ _ _)
      refine Ev.round (fun k => ?_) (Ev.cast ih (by unfold allIn; rw [List.all_cons, c, Bool.true_and]))
      simp only [spec_l1All.l0]
      rw [if_pos (lt_mid _ _ _), if_pos (by omega), if_pos (lt_mid _ _ _), rd_mid, in_eq, Option.bind_some, if_pos c, up_mid _ _ _ hn]
    · refine Ev.round (f := fun _ => some false) (fun k => ?_) (Ev.cast (Ev.now _) (by unfold allIn; rw [List.all_cons, Bool.eq_false_iff.2 c, Bool.false_and]))
      simp only [spec_l1All.l0]
      rw [if_pos (lt_mid _ _ _), if_pos (by omega), if_pos (lt_mid _ _ _), rd_mid, in_eq, Option.bind_some, if_neg c]
theorem ev_l1All (l : List Int) (lo hi : Int) (hn : l.length ≤ 9223372036854775807) : Ev (fun k => spec_l1All.f k l lo hi) (allIn l lo hi) := ev_l1All_l l lo hi hn l [] rfl
theorem allWithin_eq (l : List Int) (lo hi : Int) : impl_allWithin.f l lo hi = some (allIn l lo hi) := rfl
theorem ev_l1Has_l (l : List Int) (n : Int) (hn : l.length ≤ 9223372036854775807) : ∀ (suf pre : List Int), l = pre ++ suf → Ev (fun k => spec_l1Has.l0 k n l (l.length : Int) (pre.length : Int)) (decide (n ∈ suf))
  | [], pre, e => by
    subst e
    refine Ev.round (f := fun _ => some false) (fun k => ?_) (Ev.cast (Ev.now _) (by simp))
    simp only [spec_l1Has.l0]
    rw [if_neg (by simp)]
  | x :: suf, pre, e => by
    subst e
    by_cases c : x = n
    · refine Ev.round (f := fun _ => some true) (fun k => ?_) (Ev.cast (Ev.now _) (by simp [c]))
      simp only [spec_l1Has.l0]
      rw [if_pos (lt_mid _ _ _), if_pos (by omega), if_pos (lt_mid _ _ _), rd_mid, if_pos c]
    · have ih := ev_l1Has_l (pre ++ x :: suf) n hn suf (pre ++ [x]) (snoc_mid _ _ _)
      refine Ev.round (fun k => ?_) (Ev.cast ih (by simp [Ne.symm c]))
      simp only [spec_l1Has.l0]
      rw [if_pos (lt_mid _ _ _), if_pos (by omega), if_pos (lt_mid _ _ _), rd_mid, if_neg c, up_mid _ _ _ hn]
theorem ev_l1Has (l : List Int) (n : Int) (hn : l.length ≤ 9223372036854775807) : Ev (fun k => spec_l1Has.f k l n) (decide (n ∈ l)) := ev_l1Has_l l n hn l [] rfl
theorem ev_l3Sum_l (l : List Int) (hn : l.length ≤ 9223372036854775807) : ∀ (suf pre : List Int) (s : Int), l = pre ++ suf → Ev (fun k => spec_l3Sum.l0 k s l (l.length : Int) (pre.length : Int)) (sumFrom s suf)
  | [], pre, s, e => by
    subst e
    refine Ev.round (f := fun _ => some s) (fun k => ?_) (Ev.now _)
    simp only [spec_l3Sum.l0]
    rw [if_neg (by simp)]
  | x :: suf, pre, s, e => by
    subst e
    have ih := ev_l3Sum_l (pre ++ x :: suf) hn suf (pre ++ [x]) (wrap64 (s + x)) (snoc_mid _ _ _)
    refine Ev.round (fun k => ?_) ih
    simp only [spec_l3Sum.l0]
    rw [if_pos (lt_mid _ _ _), if_pos (by omega), if_pos (lt_mid _ _ _), rd_mid, up_mid _ _ _ hn]
theorem ev_l3Sum (l : List Int) (hn : l.length ≤ 9223372036854775807) : Ev (fun k => spec_l3Sum.f k l) (sumFrom 0 l) := ev_l3Sum_l l hn l [] 0 rfl
theorem ev_sum_l (l : List Int) (hn : l.length ≤ 9223372036854775807) : ∀ (suf pre : List Int) (s : Int), l = pre ++ suf → Ev (fun k => impl_sum.l0 k s l (l.length : Int) (pre.length : Int)) (sumFrom s suf)
  | [], pre, s, e => by
    subst e
    refine Ev.round (f := fun _ => some s) (fun k => ?_) (Ev.now _)
    simp only [impl_sum.l0]
    rw [if_neg (by simp)]
  | x :: suf, pre, s, e => by
    subst e
    have ih := ev_sum_l (pre ++ x :: suf) hn suf (pre ++ [x]) (wrap64 (s + x)) (snoc_mid _ _ _)
    refine Ev.round (fun k => ?_) ih
    simp only [impl_sum.l0]
    rw [if_pos (lt_mid _ _ _), if_pos (by omega), if_pos (lt_mid _ _ _), rd_mid, up_mid _ _ _ hn]
theorem ev_sum (l : List Int) (hn : l.length ≤ 9223372036854775807) : Ev (fun k => impl_sum.f k l) (sumFrom 0 l) := ev_sum_l l hn l [] 0 rfl
theorem szIntS_eq (l : List Int) (a : Int) : laws_szIntS.f l a = some (if wrap64 (a - (l.length : Int)) < 0 then -1 else wrap64 (a - (l.length : Int))) := by
  unfold laws_szIntS.f
  split <;> rfl
theorem rdL_mid (pre suf : List (List Int)) (x : List Int) : rd_L1 (pre ++ x :: suf) (pre.length : Int) = x := getD_mid [] pre suf x
/-- What two texts answer alike. -/
def Same {α : Type} (g h : Nat → Option α) : Prop := ∃ r, Ev g r ∧ Ev h r
theorem Same.now {α : Type} (r : α) : Same (fun _ => some r) (fun _ => some r) := ⟨r, Ev.now _, Ev.now _⟩
theorem Same.round {α : Type} {g h g' h' : Nat → Option α} (a : ∀ k, g (k + 1) = g' k) (b : ∀ k, h (k + 1) = h' k) (s : Same g' h') : Same g h := by
  obtain ⟨r, p, q⟩ := s
  exact ⟨r, Ev.round a p, Ev.round b q⟩
theorem Same.eqv {α : Type} {g h g' h' : Nat → Option α} (a : ∀ k, g k = g' k) (b : ∀ k, h k = h' k) (s : Same g' h') : Same g h := by
  obtain ⟨r, p, q⟩ := s
  exact ⟨r, Ev.eqv a p, Ev.eqv b q⟩
theorem Same.bind {α β : Type} {g h : Nat → Option α} {f f' : Nat → α → Option β} {a : α} (p : Ev g a) (q : Ev h a) (s : Same (fun n => f n a) (fun n => f' n a)) : Same (fun n => (g n).bind (f n)) (fun n => (h n).bind (f' n)) := by
  obtain ⟨r, p', q'⟩ := s
  exact ⟨r, Ev.bind p p', Ev.bind q q'⟩
def szI (x : List Int) (a : Int) : Int := if wrap64 (a - (x.length : Int)) < 0 then -1 else wrap64 (a - (x.length : Int))
def szGo (a : Int) : List (List Int) → Int
  | [] => a
  | x :: l => if szI x a < 0 then -1 else szGo (szI x a) l
def szRows (l : List (List Int)) (a : Int) : Int := if wrap64 (a - (l.length : Int)) < 0 then -1 else szGo (wrap64 (a - (l.length : Int))) l
theorem ev_szIntSS_l (l : List (List Int)) (hn : l.length ≤ 9223372036854775807) : ∀ (suf pre : List (List Int)) (a : Int), l = pre ++ suf → Ev (fun k => laws_szIntSS.l0 k l a (pre.length : Int)) (szGo a suf)
  | [], pre, a, e => by
    subst e
    refine Ev.round (f := fun _ => some a) (fun k => ?_) (Ev.now _)
    simp only [laws_szIntSS.l0]
    rw [if_neg (by simp)]
  | x :: suf, pre, a, e => by
    subst e
    have hz : laws_szIntS.f x a = some (szI x a) := szIntS_eq x a
    by_cases c : szI x a < 0
    · refine Ev.round (f := fun _ => some (-1)) (fun k => ?_) (Ev.cast (Ev.now _) (by rw [szGo, if_pos c]))
      simp only [laws_szIntSS.l0]
      rw [if_pos (lt_mid _ _ _), if_pos (by omega), rdL_mid, hz, Option.bind_some, if_pos c]
    · have ih := ev_szIntSS_l (pre ++ x :: suf) hn suf (pre ++ [x]) (szI x a) (snoc_mid _ _ _)
      refine Ev.round (fun k => ?_) (Ev.cast ih (by rw [szGo, if_neg c]))
      simp only [laws_szIntSS.l0]
      rw [if_pos (lt_mid _ _ _), if_pos (by omega), rdL_mid, hz, Option.bind_some, if_neg c, up_mid _ _ _ hn]
theorem ev_szIntSS (l : List (List Int)) (a : Int) (hn : l.length ≤ 9223372036854775807) : Ev (fun k => laws_szIntSS.f k l a) (szRows l a) := by
  unfold laws_szIntSS.f szRows
  by_cases c : wrap64 (a - (l.length : Int)) < 0
  · rw [if_pos c]
    exact Ev.ite_pos c (Ev.now _)
  · rw [if_neg c]
    exact Ev.ite_neg c (ev_szIntSS_l l hn l [] _ rfl)
theorem szI_ok {x : List Int} {a : Int} (h0 : 0 ≤ a) (ha : a ≤ 4611686018427387904) (hx : x.length ≤ 9223372036854775807) (h : ¬ szI x a < 0) : (x.length : Int) ≤ a ∧ szI x a = a - x.length := by
  have hw : wrap64 (a - (x.length : Int)) = a - x.length := by unfold wrap64; omega
  unfold szI at h ⊢
  rw [hw] at h ⊢
  by_cases c : a - (x.length : Int) < 0
  · rw [if_pos c] at h; omega
  · rw [if_neg c]; omega
theorem szGo_ok : ∀ (l : List (List Int)) (a : Int), 0 ≤ a → a ≤ 4611686018427387904 → (∀ x ∈ l, x.length ≤ 9223372036854775807) → ¬ szGo a l < 0 → (∀ x ∈ l, (x.length : Int) ≤ a) ∧ szGo a l ≤ a
  | [], a, h0, ha, hx, h => ⟨by simp, Int.le_refl _⟩
  | x :: l, a, h0, ha, hx, h => by
    rw [szGo] at h ⊢
    by_cases c : szI x a < 0
    · rw [if_pos c] at h; omega
    · rw [if_neg c] at h ⊢
      obtain ⟨h1, h2⟩ := szI_ok h0 ha (hx x (by simp)) c
      obtain ⟨h3, h4⟩ := szGo_ok l (szI x a) (by omega) (by omega) (fun y hy => hx y (by simp [hy])) h
      refine ⟨fun y hy => ?_, by omega⟩
      rcases List.mem_cons.1 hy with rfl | hy
      · exact h1
      · have := h3 y hy; omega
theorem szRows_ok {l : List (List Int)} {a : Int} (h0 : 0 ≤ a) (ha : a ≤ 4611686018427387904) (hl : l.length ≤ 9223372036854775807) (hx : ∀ x ∈ l, x.length ≤ 9223372036854775807) (h : ¬ szRows l a < 0) : (l.length : Int) ≤ a ∧ (∀ x ∈ l, (x.length : Int) ≤ a) ∧ szRows l a ≤ a := by
  have hw : wrap64 (a - (l.length : Int)) = a - l.length := by unfold wrap64; omega
  unfold szRows at h ⊢
  rw [hw] at h ⊢
  by_cases c : a - (l.length : Int) < 0
  · rw [if_pos c] at h; omega
  · rw [if_neg c] at h ⊢
    obtain ⟨h3, h4⟩ := szGo_ok l _ (by omega) (by omega) hx h
    exact ⟨by omega, fun x hx => by have := h3 x hx; omega, by omega⟩
theorem szGo_flat : ∀ (l : List (List Int)) (a : Int), 0 ≤ a → a ≤ 4611686018427387904 → (∀ x ∈ l, x.length ≤ 9223372036854775807) → ¬ szGo a l < 0 → (l.flatten.length : Int) ≤ a
  | [], a, h0, _, _, _ => by simpa using h0
  | x :: l, a, h0, ha, hx, h => by
    rw [szGo] at h
    by_cases c : szI x a < 0
    · rw [if_pos c] at h; omega
    · rw [if_neg c] at h
      obtain ⟨h1, h2⟩ := szI_ok h0 ha (hx x (by simp)) c
      have h3 := szGo_flat l (szI x a) (by omega) (by omega) (fun y hy => hx y (by simp [hy])) h
      rw [List.flatten_cons, List.length_append]
      omega
theorem szRows_flat {l : List (List Int)} {a : Int} (h0 : 0 ≤ a) (ha : a ≤ 4611686018427387904) (hl : l.length ≤ 9223372036854775807) (hx : ∀ x ∈ l, x.length ≤ 9223372036854775807) (h : ¬ szRows l a < 0) : (l.flatten.length : Int) ≤ a := by
  have hw : wrap64 (a - (l.length : Int)) = a - l.length := by unfold wrap64; omega
  unfold szRows at h
  rw [hw] at h
  by_cases c : a - (l.length : Int) < 0
  · rw [if_pos c] at h; omega
  · rw [if_neg c] at h
    have := szGo_flat l _ (by omega) (by omega) hx h
    omega
theorem ev_toIntSS_l (l : List (List Int)) (hn : l.length ≤ 11728124029610) (hx : ∀ x ∈ l, x.length ≤ 35184372088832) : ∀ (suf pre : List (List Int)), l = pre ++ suf → ∀ (z : List (List Int)), z.length = suf.length → Ev (fun k => laws_toIntSS.l0 k l (pre ++ z) (pre.length : Int)) l
  | [], pre, e, z, hz => by
    subst e
    have : z = [] := List.length_eq_zero_iff.1 hz
    subst this
    refine Ev.round (f := fun _ => some (pre ++ [])) (fun k => ?_) (Ev.now _)
    simp only [laws_toIntSS.l0]
    rw [if_neg (by simp)]
  | x :: suf, pre, e, [], hz => by simp at hz
  | x :: suf, pre, e, y :: z, hz => by
    subst e
    have ih := ev_toIntSS_l (pre ++ x :: suf) hn hx suf (pre ++ [x]) (snoc_mid _ _ _) z (by simpa using hz)
    have ht := ev_toIntS x (hx x (by simp))
    refine Ev.round (fun k => ?_) (Ev.bind ht (f := fun k t => laws_toIntSS.l0 k (pre ++ x :: suf) (pre ++ [t] ++ z) (((pre ++ [x]).length : Nat) : Int)) ih)
    simp only [laws_toIntSS.l0]
    rw [if_pos (lt_mid _ _ _), if_pos (by omega), rdL_mid]
    congr 1
    funext t
    rw [if_pos (lt_mid _ _ _), up_mid pre suf x (by omega), Int.toNat_natCast, List.set_append_right _ _ (Nat.le_refl _), Nat.sub_self, List.set_cons_zero]
    simp
theorem ev_toIntSS (l : List (List Int)) (hn : l.length ≤ 11728124029610) (hx : ∀ x ∈ l, x.length ≤ 35184372088832) : Ev (fun k => laws_toIntSS.f k l) l := by
  have h := ev_toIntSS_l l hn hx l [] rfl (List.replicate l.length []) (by simp)
  refine Ev.eqv (fun k => ?_) h
  unfold laws_toIntSS.f
  rw [if_pos (by omega), Int.toNat_natCast, if_pos hn]
  rfl
theorem ev_eqIntSS_l (a b : List (List Int)) (hab : a.length = b.length) (hn : a.length ≤ 9223372036854775807) (hx : ∀ x ∈ a, x.length ≤ 9223372036854775807) : ∀ (sa pa sb pb : List (List Int)), a = pa ++ sa → b = pb ++ sb → pa.length = pb.length → Ev (fun k => laws_eqIntSS.l0 k a b (pa.length : Int)) (decide (sa = sb))
  | [], pa, sb, pb, ea, eb, hp => by
    subst ea
    refine Ev.round (f := fun _ => some true) (fun k => ?_) (Ev.cast (Ev.now _) ?_)
    · simp only [laws_eqIntSS.l0]
      rw [if_neg (by simp)]
    · have : sb = [] := by
        rw [eb] at hab
        simp at hab
        exact List.length_eq_zero_iff.1 (by omega)
      rw [this]; rfl
  | x :: sa, pa, [], pb, ea, eb, hp => by
    rw [ea, eb] at hab
    simp at hab
    omega
  | x :: sa, pa, y :: sb, pb, ea, eb, hp => by
    subst ea
    subst eb
    have h1 : ((pa.length : Nat) : Int) = (pb.length : Int) := by omega
    have h2 : (pa.length : Int) < ((pb ++ y :: sb).length : Int) := by rw [h1]; exact lt_mid _ _ _
    have h3 : rd_L1 (pb ++ y :: sb) (pa.length : Int) = y := by rw [h1]; exact rdL_mid _ _ _
    have he := ev_eqIntS x y (hx x (by simp))
    have ih := fun (e : x = y) => ev_eqIntSS_l (pa ++ x :: sa) (pb ++ y :: sb) hab hn hx sa (pa ++ [x]) sb (pb ++ [y]) (snoc_mid _ _ _) (snoc_mid _ _ _) (by simp [hp])
    refine Ev.round (fun k => ?_) (Ev.bind he (f := fun k t => if t = true then laws_eqIntSS.l0 k (pa ++ x :: sa) (pb ++ y :: sb) (((pa ++ [x]).length : Nat) : Int) else some false) ?_)
    · simp only [laws_eqIntSS.l0]
      rw [if_pos (lt_mid _ _ _), if_pos (by omega), if_pos h2, rdL_mid, h3, up_mid _ _ _ hn]
    · by_cases e : x = y
      · exact Ev.ite_pos (by simp [e]) (Ev.cast (ih e) (by simp [e]))
      · exact Ev.ite_neg (by simp [e]) (Ev.cast (Ev.now _) (by simp [e]))
theorem ev_eqIntSS (a b : List (List Int)) (hn : a.length ≤ 9223372036854775807) (hx : ∀ x ∈ a, x.length ≤ 9223372036854775807) : Ev (fun k => laws_eqIntSS.f k a b) (decide (a = b)) := by
  unfold laws_eqIntSS.f
  by_cases h : a.length = b.length
  · exact Ev.ite_pos (by omega) (ev_eqIntSS_l a b h hn hx a [] b [] rfl rfl rfl)
  · refine Ev.ite_neg (by omega) (Ev.cast (Ev.now _) ?_)
    rw [decide_eq_false]
    rintro rfl
    exact h rfl
def goodItems (l : List Int) : Bool := decide ((l.length : Int) ≤ 9) && allIn l 1 20
theorem ev_GoodItems (l : List Int) (hn : l.length ≤ 9223372036854775807) : Ev (fun k => spec_GoodItems.f k l) (goodItems l) := by
  unfold spec_GoodItems.f
  by_cases h : (l.length : Int) ≤ 9
  · refine Ev.ite_pos h (Ev.bind (ev_l1All l 1 20 hn) (Ev.cast (Ev.now _) ?_))
    simp [goodItems, h]
  · refine Ev.ite_neg h (Ev.cast (Ev.now _) ?_)
    simp [goodItems, h]
theorem implGoodItems (l : List Int) : impl_GoodItems.f l = some (goodItems l) := by
  unfold impl_GoodItems.f
  by_cases h : (l.length : Int) ≤ 9
  · rw [if_pos h, allWithin_eq]
    simp [goodItems, h]
  · rw [if_neg h]
    simp [goodItems, h]
theorem goodItems_iff {l : List Int} (h : goodItems l = true) : l.length ≤ 9 ∧ ∀ x ∈ l, 1 ≤ x ∧ x ≤ 20 := by
  unfold goodItems at h
  rw [Bool.and_eq_true, decide_eq_true_iff, allIn_iff] at h
  exact ⟨by omega, h.2⟩
/-- The numbers lie in 0 .. m - 1, and none stands before. -/
def ordP (m : Int) : List Int → List Int → Bool
  | _, [] => true
  | pre, x :: suf => (decide (0 ≤ x) && decide (x ≤ m - 1)) && !(decide (x ∈ pre)) && ordP m (pre ++ [x]) suf
theorem ordP_iff (m : Int) : ∀ (suf pre : List Int), ordP m pre suf = true ↔ (∀ x ∈ suf, 0 ≤ x ∧ x ≤ m - 1) ∧ (∀ x ∈ suf, ¬ x ∈ pre) ∧ suf.Nodup
  | [], pre => by simp [ordP]
  | x :: suf, pre => by
    rw [ordP, Bool.and_eq_true, Bool.and_eq_true, Bool.and_eq_true, decide_eq_true_eq, decide_eq_true_eq, Bool.not_eq_true', decide_eq_false_iff_not, ordP_iff m suf (pre ++ [x]), List.nodup_cons]
    constructor
    · rintro ⟨⟨⟨h1, h2⟩, h3⟩, h4, h5, h6⟩
      refine ⟨fun y hy => ?_, fun y hy => ?_, fun hx => h5 x hx (by simp), h6⟩
      · rcases List.mem_cons.1 hy with rfl | hy
        · exact ⟨h1, h2⟩
        · exact h4 y hy
      · rcases List.mem_cons.1 hy with rfl | hy
        · exact h3
        · exact fun hp => h5 y hy (by simp [hp])
    · rintro ⟨h1, h2, h3, h4⟩
      refine ⟨⟨⟨(h1 x (by simp)).1, (h1 x (by simp)).2⟩, h2 x (by simp)⟩, fun y hy => h1 y (by simp [hy]), fun y hy hp => ?_, h4⟩
      rcases List.mem_append.1 hp with hp | hp
      · exact h2 y (by simp [hy]) hp
      · rw [List.mem_singleton] at hp
        exact h3 (hp ▸ hy)
theorem cnt_lt : ∀ (s : List Int) (a b : Int), s.Pairwise (· < ·) → (∀ x ∈ s, a ≤ x ∧ x < b) → s.length ≤ (b - a).toNat
  | [], _, _, _, _ => Nat.zero_le _
  | x :: s, a, b, hp, h => by
    rw [List.pairwise_cons] at hp
    have ih := cnt_lt s (x + 1) b hp.2 (fun y hy => ⟨by have := hp.1 y hy; omega, (h y (by simp [hy])).2⟩)
    have := h x (by simp)
    rw [List.length_cons]
    omega
theorem up_of : ∀ (s : List Int) (a : Int), s.Pairwise (· < ·) → (∀ x ∈ s, a ≤ x ∧ x < a + s.length) → upI s a = true
  | [], _, _, _ => rfl
  | x :: s, a, hp, h => by
    rw [List.pairwise_cons] at hp
    have hx := h x (by simp)
    rw [List.length_cons] at h hx
    have hc := cnt_lt s (x + 1) (a + ((s.length + 1 : Nat) : Int)) hp.2 (fun y hy => ⟨by have := hp.1 y hy; omega, (h y (by simp [hy])).2⟩)
    have e : x = a := by omega
    rw [upI, e, decide_eq_true rfl, Bool.true_and]
    refine up_of s (a + 1) hp.2 (fun y hy => ?_)
    have h1 := hp.1 y hy
    have h2 := (h y (by simp [hy])).2
    exact ⟨by omega, by omega⟩
theorem up_in : ∀ (s : List Int) (a : Int), upI s a = true → s.Nodup ∧ ∀ x ∈ s, a ≤ x ∧ x < a + s.length
  | [], _, _ => ⟨List.nodup_nil, by simp⟩
  | x :: s, a, h => by
    rw [upI, Bool.and_eq_true, decide_eq_true_eq] at h
    obtain ⟨rfl, h⟩ := h
    obtain ⟨h1, h2⟩ := up_in s (x + 1) h
    refine ⟨List.nodup_cons.2 ⟨fun hx => by have := h2 x hx; omega, h1⟩, fun y hy => ?_⟩
    rw [List.length_cons]
    rcases List.mem_cons.1 hy with rfl | hy
    · omega
    · have := h2 y hy
      omega
theorem sortI_perm (l : List Int) : (sortI l).Perm l := List.mergeSort_perm l _
theorem sortI_sorted (l : List Int) : (sortI l).Pairwise (· ≤ ·) := by
  have h := List.pairwise_mergeSort (le := fun x y : Int => decide (x ≤ y)) (fun a b c h1 h2 => by rw [decide_eq_true_eq] at h1 h2 ⊢; omega) (fun a b => by rw [Bool.or_eq_true, decide_eq_true_eq, decide_eq_true_eq]; omega) l
  exact h.imp (fun h => of_decide_eq_true h)
/-- The numbers are an order of so many. -/
def ordB (l : List Int) (m : Int) : Bool := decide ((l.length : Int) = m) && ordP m [] l
theorem ordB_impl (l : List Int) (m : Int) : (upI (sortI l) 0 && decide ((l.length : Int) = m)) = ordB l m := by
  unfold ordB
  rw [Bool.and_comm]
  by_cases h : (l.length : Int) = m
  · rw [decide_eq_true h, Bool.true_and, Bool.true_and, Bool.eq_iff_iff, ordP_iff]
    have hm : ∀ x, x ∈ sortI l ↔ x ∈ l := fun x => (sortI_perm l).mem_iff
    have hl := sortI_length l
    constructor
    · intro hu
      obtain ⟨h1, h2⟩ := up_in _ _ hu
      refine ⟨fun x hx => ?_, by simp, (sortI_perm l).nodup_iff.1 h1⟩
      have := h2 x ((hm x).2 hx)
      rw [hl] at this
      omega
    · rintro ⟨h1, _, h3⟩
      refine up_of _ _ ?_ (fun x hx => ?_)
      · exact ((sortI_sorted l).and ((sortI_perm l).nodup_iff.2 h3)).imp (fun h => by omega)
      · have := h1 x ((hm x).1 hx)
        rw [hl]
        omega
  · rw [decide_eq_false h, Bool.false_and, Bool.false_and]
theorem ordB_in {l : List Int} {m : Int} (h : ordB l m = true) : (l.length : Int) = m ∧ ∀ x ∈ l, 0 ≤ x ∧ x < m := by
  unfold ordB at h
  rw [Bool.and_eq_true, decide_eq_true_eq, ordP_iff] at h
  exact ⟨h.1, fun x hx => by have := h.2.1 x hx; omega⟩
theorem implOrder (l : List Int) (m : Int) (hl : l.length ≤ 17592186044416) : impl_isOrder.f l m = some (ordB l m) := by
  unfold impl_isOrder.f
  rw [if_pos hl, ordB_impl]
theorem ordP_append (m : Int) : ∀ (a pre b : List Int), ordP m pre (a ++ b) = (ordP m pre a && ordP m (pre ++ a) b)
  | [], pre, b => by simp [ordP]
  | x :: a, pre, b => by
    rw [List.cons_append, ordP, ordP, ordP_append m a (pre ++ [x]) b, show pre ++ x :: a = (pre ++ [x]) ++ a from by simp]
    simp only [Bool.and_assoc]
/-- How much is in a box. -/
def fillF (l : List Int) : Int → List Int → Int
  | s, [] => s
  | s, v :: x => fillF l (wrap64 (s + rd l v)) x
/-- A box holds something, and not too much. -/
def boxB (l x : List Int) : Bool := !(decide (x.length = 0) || decide (fillF l 0 x > 20))
theorem filled_run (l x : List Int) (hn : x.length ≤ 1048576) : ∀ (suf pre : List Int) (s : Int) (k : Nat), x = pre ++ suf → (∀ v ∈ suf, 0 ≤ v ∧ v < (l.length : Int)) → suf.length < k → impl_filled.l0 k l s x (x.length : Int) (pre.length : Int) = some (fillF l s suf)
  | [], pre, s, k, e, _, hk => by
    subst e
    obtain ⟨k, rfl⟩ : ∃ j, k = j + 1 := ⟨k - 1, by simp at hk; omega⟩
    simp only [impl_filled.l0]
    rw [if_neg (by simp), fillF]
  | v :: suf, pre, s, k, e, hin, hk => by
    subst e
    rw [List.length_cons] at hk
    obtain ⟨k, rfl⟩ : ∃ j, k = j + 1 := ⟨k - 1, by omega⟩
    have ih := filled_run l (pre ++ v :: suf) hn suf (pre ++ [v]) (wrap64 (s + rd l v)) k (snoc_mid _ _ _) (fun u hu => hin u (by simp [hu])) (by omega)
    have hv := hin v (by simp)
    simp only [impl_filled.l0]
    rw [if_pos (lt_mid _ _ _), if_pos (by omega), if_pos (lt_mid _ _ _), rd_mid, if_pos hv.1, if_pos hv.2, up_mid pre suf v (by omega), ih, fillF]
theorem filled_eq (l x : List Int) (hn : x.length ≤ 1048576) (hin : ∀ v ∈ x, 0 ≤ v ∧ v < (l.length : Int)) : impl_filled.f (x.length + 1) l x = some (fillF l 0 x) := filled_run l x hn x [] 0 _ rfl hin (Nat.lt_succ_self _)
theorem concat1_run (l : List (List Int)) (hn : l.length ≤ 1048576) : ∀ (suf pre : List (List Int)) (a : List Int) (k : Nat), l = pre ++ suf → a.length + suf.flatten.length ≤ 1048576 → suf.length < k → slices_Concat_int_int.l1 k a l (l.length : Int) (pre.length : Int) = some (a ++ suf.flatten)
  | [], pre, a, k, e, _, hk => by
    subst e
    obtain ⟨k, rfl⟩ : ∃ j, k = j + 1 := ⟨k - 1, by simp at hk; omega⟩
    simp only [slices_Concat_int_int.l1]
    rw [if_neg (by simp)]
    simp
  | v :: suf, pre, a, k, e, hin, hk => by
    subst e
    rw [List.length_cons] at hk
    rw [List.flatten_cons, List.length_append] at hin
    obtain ⟨k, rfl⟩ : ∃ j, k = j + 1 := ⟨k - 1, by omega⟩
    have ih := concat1_run (pre ++ v :: suf) hn suf (pre ++ [v]) (a ++ v) k (snoc_mid _ _ _) (by rw [List.length_append]; omega) (by omega)
    simp only [slices_Concat_int_int.l1]
    rw [if_pos (lt_mid _ _ _), if_pos (by omega), if_pos (lt_mid _ _ _), rdL_mid, if_pos (by omega), up_mid pre suf v (by omega), ih]
    simp
theorem concat0_run (l : List (List Int)) (hn : l.length ≤ 1048576) (hf : l.flatten.length ≤ 1048576) : ∀ (suf pre : List (List Int)) (s : Int) (k : Nat), l = pre ++ suf → 0 ≤ s → s + (suf.flatten.length : Int) ≤ 1048576 → suf.length + l.length + 1 < k → slices_Concat_int_int.l0 k l s l (l.length : Int) (pre.length : Int) = some l.flatten
  | [], pre, s, k, e, h0, hs, hk => by
    obtain ⟨k, rfl⟩ : ∃ j, k = j + 1 := ⟨k - 1, by omega⟩
    have h1 := concat1_run l hn l [] [] k rfl (by simpa using hf) (by simp at hk; omega)
    subst e
    simp only [slices_Concat_int_int.l0]
    rw [if_neg (by simp)]
    have hg : slices_Grow_int_int.f ([] : List Int) s = some [] := by
      show (if 0 ≤ s ∧ s ≤ 1048576 then some ([] : List Int) else none) = _
      rw [if_pos ⟨h0, by simp at hs; omega⟩]
    rw [hg, Option.bind_some]
    exact h1
  | v :: suf, pre, s, k, e, h0, hs, hk => by
    subst e
    rw [List.length_cons] at hk
    rw [List.flatten_cons, List.length_append] at hs
    obtain ⟨k, rfl⟩ : ∃ j, k = j + 1 := ⟨k - 1, by omega⟩
    have hw : wrap64 (s + (v.length : Int)) = s + v.length := by unfold wrap64; omega
    have ih := concat0_run (pre ++ v :: suf) hn hf suf (pre ++ [v]) (s + v.length) k (snoc_mid _ _ _) (by omega) (by omega) (by omega)
    simp only [slices_Concat_int_int.l0]
    rw [if_pos (lt_mid _ _ _), if_pos (by omega), if_pos (lt_mid _ _ _), rdL_mid, hw, if_neg (by omega), up_mid pre suf v (by omega), ih]
theorem concat_eq (l : List (List Int)) (hn : l.length ≤ 1048576) (hf : l.flatten.length ≤ 1048576) : slices_Concat_int_int.f (2 * l.length + 4) l = some l.flatten :=
  concat0_run l hn hf l [] 0 _ rfl (by omega) (by omega) (by omega)
/-- The boxes are a packing. -/
def packB (l : List Int) (b : List (List Int)) : Bool := ordB b.flatten (l.length : Int) && b.all (boxB l)
theorem isPacking_eq (l : List Int) (b : List (List Int)) (hn : b.length ≤ 1048576) (hf : b.flatten.length ≤ 1048576) (hx : ∀ x ∈ b, x.length ≤ 1048576) : impl_isPacking.f l b = some (packB l b) := by
  unfold impl_isPacking.f packB
  rw [concat_eq b hn hf, Option.bind_some, implOrder _ _ (by omega), Option.bind_some]
  by_cases h : ordB b.flatten (l.length : Int) = true
  · have hin := (ordB_in h).2
    have hd : ∀ x ∈ b, impl_filled.f (x.length + 1) l x = some (fillF l 0 x) := fun x hxb => filled_eq l x (hx x hxb) (fun v hv => hin v (List.mem_flatten.2 ⟨x, hxb, hv⟩))
    rw [if_pos h, if_pos (List.all_eq_true.2 (fun x hxb => by rw [hd x hxb]; rfl)), h, Bool.true_and]
    congr 1
    have : ∀ x ∈ b, impl_isPacking.p l x = !(boxB l x) := fun x hxb => by
      unfold impl_isPacking.p boxB
      rw [hd x hxb, Bool.not_not]
    rw [List.any_eq_not_all_not, Bool.not_not]
    rw [Bool.eq_iff_iff, List.all_eq_true, List.all_eq_true]
    constructor
    · intro H x hxb
      have := H x hxb
      rw [‹∀ x ∈ b, impl_isPacking.p l x = !(boxB l x)› x hxb, Bool.not_not] at this
      exact this
    · intro H x hxb
      rw [this x hxb, Bool.not_not]
      exact H x hxb
  · rw [if_neg h, Bool.eq_false_iff.2 h, Bool.false_and]
/-- The reference's way through the boxes. -/
def packS (l : List Int) : List Int → List (List Int) → Bool
  | seen, [] => decide ((seen.length : Int) = (l.length : Int))
  | seen, x :: b => ordP (l.length : Int) seen x && (boxB l x && packS l (seen ++ x) b)
theorem packS_eq (l : List Int) : ∀ (b : List (List Int)) (seen : List Int), packS l seen b = (ordP (l.length : Int) seen b.flatten && (b.all (boxB l) && decide (((seen ++ b.flatten).length : Int) = (l.length : Int))))
  | [], seen => by simp [packS, ordP]
  | x :: b, seen => by
    rw [packS, packS_eq l b (seen ++ x), List.flatten_cons, ordP_append, List.all_cons, List.append_assoc]
    cases ordP (l.length : Int) seen x <;> cases boxB l x <;> cases ordP (l.length : Int) (seen ++ x) b.flatten <;> simp
theorem packS_ok (l : List Int) (b : List (List Int)) : packS l [] b = packB l b := by
  rw [packS_eq, packB, ordB, List.nil_append]
  cases ordP (l.length : Int) [] b.flatten <;> cases b.all (boxB l) <;> simp
theorem pack_row (l : List Int) (b : List (List Int)) (m : Int) (i : Nat) (x : List Int) (r : List Int → Bool) (hn : x.length ≤ 1048576) (hl : l.length ≤ 9) (hw : wrap64 ((i : Int) + 1) = ((i + 1 : Nat) : Int)) : ∀ (suf pre seen : List Int) (s : Int), x = pre ++ suf → seen.length + suf.length ≤ 2097152 →
    (∀ q, Ev (fun k => spec_l12Packing.l0 k l (q ++ suf) b m ((i + 1 : Nat) : Int)) (r (q ++ suf)) ∨ q ≠ seen) →
    Ev (fun k => spec_l12Packing.l1 k l seen x s b m (i : Int) x (x.length : Int) (pre.length : Int)) (ordP (l.length : Int) seen suf && (!(decide (x.length = 0) || decide (fillF l s suf > 20)) && r (seen ++ suf)))
  | [], pre, seen, s, e, _, hr => by
    subst e
    refine Ev.round (fun k => by simp only [spec_l12Packing.l1]; rw [if_neg (by simp), hw]) ?_
    rw [ordP, Bool.true_and, fillF]
    by_cases h0 : (pre ++ []).length = 0
    · rw [decide_eq_true h0]
      exact Ev.ite_pos (by omega) (Ev.now _)
    · rw [decide_eq_false h0]
      refine Ev.ite_neg (by omega) ?_
      by_cases h1 : s > 20
      · rw [decide_eq_true h1]
        exact Ev.ite_pos h1 (Ev.now _)
      · rw [decide_eq_false h1]
        refine Ev.ite_neg h1 ?_
        rcases hr seen with h | h
        · simpa using h
        · exact absurd rfl h
  | v :: suf, pre, seen, s, e, hs, hr => by
    subst e
    rw [List.length_cons] at hs
    refine Ev.round (fun k => by simp only [spec_l12Packing.l1]; rw [if_pos (lt_mid _ _ _), rd_mid, up_mid pre suf v (by omega)]) ?_
    refine Ev.ite_pos (by omega) (Ev.ite_pos (lt_mid _ _ _) ?_)
    rw [ordP]
    by_cases c0 : v < 0
    · rw [decide_eq_false (show ¬ 0 ≤ v by omega)]
      exact Ev.ite_pos c0 (Ev.now _)
    refine Ev.ite_neg c0 ?_
    rw [decide_eq_true (show 0 ≤ v by omega)]
    by_cases c1 : v ≥ (l.length : Int)
    · rw [decide_eq_false (show ¬ v ≤ (l.length : Int) - 1 by omega)]
      exact Ev.ite_pos c1 (Ev.now _)
    refine Ev.ite_neg c1 ?_
    rw [decide_eq_true (show v ≤ (l.length : Int) - 1 by omega)]
    refine Ev.bind (ev_l1Has seen v (by omega)) ?_
    by_cases c2 : v ∈ seen
    · rw [decide_eq_true c2]
      exact Ev.ite_pos rfl (Ev.now _)
    rw [decide_eq_false c2]
    refine Ev.ite_neg (by decide) (Ev.ite_pos (by omega) (Ev.ite_pos (by omega) (Ev.ite_pos (by omega) ?_)))
    have ih := pack_row l b m i (pre ++ v :: suf) r hn hl hw suf (pre ++ [v]) (seen ++ [v]) (wrap64 (s + rd l v)) (snoc_mid _ _ _) (by simp; omega) (fun q => by
      by_cases hq : q = seen ++ [v]
      · left
        rcases hr seen with h | h
        · subst hq; simpa using h
        · exact absurd rfl h
      · exact Or.inr hq)
    rw [fillF]
    simpa using ih
theorem ev_pack_l (l : List Int) (b : List (List Int)) (hn : b.length ≤ 1048576) (hx : ∀ x ∈ b, x.length ≤ 1048576) (hl : l.length ≤ 9) : ∀ (suf pre : List (List Int)) (seen : List Int), b = pre ++ suf → seen.length + suf.flatten.length ≤ 1048576 →
    Ev (fun k => spec_l12Packing.l0 k l seen b (b.length : Int) (pre.length : Int)) (packS l seen suf)
  | [], pre, seen, e, _ => by
    subst e
    refine Ev.round (f := fun _ => some ((seen.length : Int) == (l.length : Int))) (fun k => ?_) (Ev.cast (Ev.now _) rfl)
    simp only [spec_l12Packing.l0]
    rw [if_neg (by simp)]
  | x :: suf, pre, seen, e, hs => by
    subst e
    rw [List.flatten_cons, List.length_append] at hs
    have ih := ev_pack_l l (pre ++ x :: suf) hn hx hl suf (pre ++ [x]) (seen ++ x) (snoc_mid _ _ _) (by rw [List.length_append]; omega)
    refine Ev.round (fun k => by simp only [spec_l12Packing.l0]; rw [if_pos (lt_mid _ _ _), rdL_mid]) ?_
    refine Ev.ite_pos (by omega) (Ev.ite_pos (lt_mid _ _ _) ?_)
    rw [packS]
    have hpl : pre.length ≤ 1048576 := by have := hn; simp at this; omega
    exact pack_row l (pre ++ x :: suf) ((pre ++ x :: suf).length : Int) pre.length x (fun q => packS l q suf) (hx x (by simp)) hl (by unfold wrap64; omega) x [] seen 0 rfl (by omega) (fun q => by
      by_cases hq : q = seen
      · left
        subst hq
        simpa using ih
      · exact Or.inr hq)
theorem ev_packing (l : List Int) (b : List (List Int)) (hn : b.length ≤ 1048576) (hx : ∀ x ∈ b, x.length ≤ 1048576) (hf : b.flatten.length ≤ 1048576) (hl : l.length ≤ 9) : Ev (fun k => spec_l12Packing.f k l b) (packB l b) := by
  have h := ev_pack_l l b hn hx hl b [] [] rfl (by simpa using hf)
  rw [packS_ok] at h
  exact h
end Go.Proofs.Ytojoglgjfocgiaa.Pure
