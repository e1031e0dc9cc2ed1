import Derived.Test.YtdbepjnapjjlcaaGLCutOf0
import Derived.Test.YtdbepjnapjjlcaaGLCutOf1
import Derived.Test.YtdbepjnapjjlcaaGLCutOf2
import Derived.Test.YtdbepjnapjjlcaaGLCutOf3
import Derived.Test.YtdbepjnapjjlcaaGLCutOf4
import Derived.Test.YtdbepjnapjjlcaaGLCutOf5
import Derived.Test.YtdbepjnapjjlcaaGLCutOf6
import Derived.Test.YtdbepjnapjjlcaaGLCutOf7
namespace Go.Proofs.Ytdbepjnapjjlcaa.Pure
open Go.RowKit Go.Proofs.Ytdbepjnapjjlcaa.GLCutOf Go.Proofs.YtdbepjnapjjlcaaW.PrintWords Go.Proofs.YtdbepjnapjjlcaaW.PrintLast Go.Proofs.YtdbepjnapjjlcaaW.PrintMore Go.Proofs.YtdbepjnapjjlcaaW.PrintOwn
set_option linter.unusedVariables false
set_option linter.unusedSimpArgs false
theorem Ev.bindc {α β : Type} {g : Option α} {f : Nat → α → Option β} {a : α} {r : β} (h : g = some a) (k : Ev (fun n => f n a) r) : Ev (fun n => g.bind (f n)) r := by
  subst h
  exact k
/-- One round. -/
theorem Ev.round {α : Type} {g f : Nat → Option α} {r : α} (h : ∀ k, g (k + 1) = f k) (k : Ev f r) : Ev g r := Ev.step h k
theorem Ev.eqv {α : Type} {g f : Nat → Option α} {r : α} (h : ∀ k, g k = f k) (k : Ev f r) : Ev g r := Ev.congr h k
theorem Ev.cast {α : Type} {g : Nat → Option α} {r r' : α} (h : Ev g r) (e : r = r') : Ev g r' := e ▸ h
theorem Ev.ite_pos {α : Type} {c : Prop} [Decidable c] {g f : Nat → Option α} {r : α} (hc : c) (k : Ev g r) : Ev (fun n => if c then g n else f n) r := by
  refine Ev.eqv (fun n => ?_) k
  rw [if_pos hc]
theorem Ev.ite_neg {α : Type} {c : Prop} [Decidable c] {g f : Nat → Option α} {r : α} (hc : ¬ c) (k : Ev f r) : Ev (fun n => if c then g n else f n) r := by
  refine Ev.eqv (fun n => ?_) k
  rw [if_neg hc]
theorem getD_mid {α : Type} (d : α) (pre suf : List α) (x : α) : (pre ++ x :: suf).getD (pre.length : Int).toNat d = x := by
  rw [Int.toNat_natCast, List.getD_eq_getElem?_getD, List.getElem?_append_right (Nat.le_refl _), Nat.sub_self]
  rfl
theorem rd_mid (pre suf : List Int) (x : Int) : rd (pre ++ x :: suf) (pre.length : Int) = x := getD_mid 0 pre suf x
theorem lt_mid {α : Type} (pre suf : List α) (x : α) : (pre.length : Int) < ((pre ++ x :: suf).length : Int) := by
  rw [List.length_append, List.length_cons]; omega
theorem up_mid {α : Type} (pre suf : List α) (x : α) (h : (pre ++ x :: suf).length ≤ 9223372036854775807) : wrap64 ((pre.length : Int) + 1) = ((pre ++ [x]).length : Int) := by
  rw [List.length_append, List.length_cons] at h
  rw [List.length_append, List.length_singleton]
  unfold wrap64
  omega
theorem snoc_mid {α : Type} (pre suf : List α) (x : α) : pre ++ x :: suf = (pre ++ [x]) ++ suf := by simp
theorem Ev.need {α β : Type} [DecidableEq α] {g : Nat → Option α} {a : α} {f : Nat → Option β} {r : β} (h : Ev g a) (k : Ev f r) : Ev (fun n => if g n = some a then f n else none) r := by
  obtain ⟨m1, h1⟩ := h
  obtain ⟨m2, h2⟩ := k
  exact ⟨max m1 m2, fun n hn => by show (if g n = some a then f n else none) = some r; rw [if_pos (h1 n (by omega))]; exact h2 n (by omega)⟩
/-- All numbers lie between two. -/
def allIn (l : List Int) (lo hi : Int) : Bool := l.all fun n => decide (lo ≤ n) && decide (n ≤ hi)
theorem allIn_iff {l : List Int} {lo hi : Int} : allIn l lo hi = true ↔ ∀ x ∈ l, lo ≤ x ∧ x ≤ hi := by
  unfold allIn
  rw [List.all_eq_true]
  simp
theorem ev_toIntS_l (l : List Int) (hn : l.length ≤ 35184372088832) : ∀ (suf pre : List Int), l = pre ++ suf → ∀ (z : List Int), z.length = suf.length → Ev (fun k => laws_toIntS.l0 k l (pre ++ z) (pre.length : Int)) l
  | [], pre, e, z, hz => by
    subst e
    have : z = [] := List.length_eq_zero_iff.1 hz
    subst this
    refine Ev.round (f := fun _ => some (pre ++ [])) (fun k => ?_) (Ev.now _)
    simp only [laws_toIntS.l0]
    rw [if_neg (by simp)]
  | x :: suf, pre, e, [], hz => by simp at hz
  | x :: suf, pre, e, y :: z, hz => by
    subst e
    have ih := ev_toIntS_l (pre ++ x :: suf) hn suf (pre ++ [x]) (snoc_mid _ _ _) z (by simpa using hz)
    refine Ev.round (fun k => ?_) ih
    simp only [laws_toIntS.l0]
    rw [if_pos (lt_mid _ _ _), if_pos (by omega), if_pos (lt_mid _ _ _), rd_mid, up_mid pre suf x (by omega)]
    congr 1
    rw [Int.toNat_natCast, List.set_append_right _ _ (Nat.le_refl _), Nat.sub_self, List.set_cons_zero]
    simp
theorem ev_toIntS (l : List Int) (hn : l.length ≤ 35184372088832) : Ev (fun k => laws_toIntS.f k l) l := by
  have h := ev_toIntS_l l hn l [] rfl (List.replicate l.length 0) (by simp)
  refine Ev.eqv (fun k => ?_) h
  unfold laws_toIntS.f
  rw [if_pos (by omega), Int.toNat_natCast, if_pos hn]
  rfl
theorem ev_eqIntS_l (a b : List Int) (hab : a.length = b.length) (hn : a.length ≤ 9223372036854775807) : ∀ (sa pa sb pb : List Int), a = pa ++ sa → b = pb ++ sb → pa.length = pb.length → Ev (fun k => laws_eqIntS.l0 k a b (pa.length : Int)) (decide (sa = sb))
  | [], pa, sb, pb, ea, eb, hp => by
    subst ea
    refine Ev.round (f := fun _ => some true) (fun k => ?_) (Ev.cast (Ev.now _) ?_)
    · simp only [laws_eqIntS.l0]
      rw [if_neg (by simp)]
    · have : sb = [] := by
        rw [eb] at hab
        simp at hab
        exact List.length_eq_zero_iff.1 (by omega)
      rw [this]; rfl
  | x :: sa, pa, [], pb, ea, eb, hp => by
    rw [ea, eb] at hab
    simp at hab
    omega
  | x :: sa, pa, y :: sb, pb, ea, eb, hp => by
    subst ea
    subst eb
    have h1 : ((pa.length : Nat) : Int) = (pb.length : Int) := by omega
    by_cases e : x = y
    · subst e
      have ih := ev_eqIntS_l (pa ++ x :: sa) (pb ++ x :: sb) hab hn sa (pa ++ [x]) sb (pb ++ [x]) (snoc_mid _ _ _) (snoc_mid _ _ _) (by simp [hp])
      refine Ev.round (fun k => ?_) (Ev.cast ih (by simp))
      simp only [laws_eqIntS.l0]
      rw [if_pos (lt_mid _ _ _), if_pos (by omega), if_pos (by rw [h1]; exact lt_mid _ _ _), rd_mid, h1, rd_mid, if_pos rfl, ← h1, up_mid _ _ _ hn]
    · refine Ev.round (f := fun _ => some false) (fun k => ?_) (Ev.cast (Ev.now _) (by simp [e]))
      simp only [laws_eqIntS.l0]
      rw [if_pos (lt_mid _ _ _), if_pos (by omega), if_pos (by rw [h1]; exact lt_mid _ _ _), rd_mid, h1, rd_mid, if_neg e]
theorem ev_eqIntS (a b : List Int) (hn : a.length ≤ 9223372036854775807) : Ev (fun k => laws_eqIntS.f k a b) (decide (a = b)) := by
  unfold laws_eqIntS.f
  by_cases h : a.length = b.length
  · exact Ev.ite_pos (by omega) (ev_eqIntS_l a b h hn a [] b [] rfl rfl rfl)
  · refine Ev.ite_neg (by omega) (Ev.cast (Ev.now _) ?_)
    rw [decide_eq_false]
    rintro rfl
    exact h rfl
theorem in_eq (a lo hi : Int) : spec_l1In.f a lo hi = some (decide (lo ≤ a) && decide (a ≤ hi)) := by
  unfold spec_l1In.f
  by_cases h : a ≥ lo
  · rw [if_pos h]; simp [h]
  · rw [if_neg h]; simp [h]
theorem ev_l1All_l (l : List Int) (lo hi : Int) (hn : l.length ≤ 9223372036854775807) : ∀ (suf pre : List Int), l = pre ++ suf → Ev (fun k => spec_l1All.l0 k lo hi l (l.length : Int) (pre.length : Int)) (allIn suf lo hi)
  | [], pre, e => by
    subst e
    refine Ev.round (f := fun _ => some true) (fun k => ?_) (Ev.now _)
    simp only [spec_l1All.l0]
    rw [if_neg (by simp)]
  | x :: suf, pre, e => by
    subst e
    by_cases c : (decide (lo ≤ x) && decide (x ≤ hi)) = true
    · have ih := ev_l1All_l (pre ++ x :: suf) lo hi hn suf (pre ++ [x]) (snoc_mid _ _ _)
      refine Ev.round (fun k => ?_) (Ev.cast ih (by unfold allIn; rw [List.all_cons, c, Bool.true_and]))
      simp only [spec_l1All.l0]
      rw [if_pos (lt_mid _ _ _), if_pos (by omega), if_pos (lt_mid _ _ _), rd_mid, in_eq, Option.bind_some, if_pos c, up_mid _ _ _ hn]
    · refine Ev.round (f := fun _ => some false) (fun k => ?_) (Ev.cast (Ev.now _) (by unfold allIn; rw [List.all_cons, Bool.eq_false_iff.2 c, Bool.false_and]))
      simp only [spec_l1All.l0]
      rw [if_pos (lt_mid _ _ _), if_pos (by omega), if_pos (lt_mid _ _ _), rd_mid, in_eq, Option.bind_some, if_neg c]
theorem ev_l1All (l : List Int) (lo hi : Int) (hn : l.length ≤ 9223372036854775807) : Ev (fun k => spec_l1All.f k l lo hi) (allIn l lo hi) := ev_l1All_l l lo hi hn l [] rfl
/-- n numbers from a on. -/
def upFrom (a : Int) : Nat → List Int
  | 0 => []
  | n + 1 => a :: upFrom (a + 1) n
theorem ev_markIntS_l : ∀ (suf pre : List Int) (a : Int), 0 ≤ a → a + suf.length ≤ 4611686018427387904 → pre.length + suf.length ≤ 4611686018427387904 → Ev (fun k => laws_markIntS.l0 k (pre ++ suf) a (pre.length : Int)) (a + suf.length, pre ++ upFrom a suf.length)
  | [], pre, a, h0, h1, h2 => by
    refine Ev.round (f := fun _ => some (a, pre ++ [])) (fun k => ?_) (Ev.cast (Ev.now _) (by simp [upFrom]))
    simp only [laws_markIntS.l0]
    rw [if_neg (by simp)]
  | x :: suf, pre, a, h0, h1, h2 => by
    rw [List.length_cons] at h1 h2
    have ih := ev_markIntS_l suf (pre ++ [a]) (a + 1) (by omega) (by omega) (by simp; omega)
    refine Ev.round (fun k => ?_) (Ev.cast ih (by rw [List.length_cons, upFrom]; simp; omega))
    simp only [laws_markIntS.l0]
    have hw : wrap64 (a + 1) = a + 1 := by unfold wrap64; omega
    have hw2 : wrap64 ((pre.length : Int) + 1) = ((pre ++ [a]).length : Int) := by unfold wrap64; simp; omega
    rw [if_pos (lt_mid _ _ _), if_pos (by omega), hw, hw2, Int.toNat_natCast, List.set_append_right _ _ (Nat.le_refl _), Nat.sub_self, List.set_cons_zero]
    simp
theorem ev_markIntS (l : List Int) (a : Int) (h0 : 0 ≤ a) (h1 : a + l.length ≤ 4611686018427387904) : Ev (fun k => laws_markIntS.f k l a) (a + l.length, upFrom a l.length) := ev_markIntS_l l [] a h0 h1 (by simp; omega)
theorem ev_heldIntS_l : ∀ (n : Nat) (pre : List Int) (a : Int), 0 ≤ a → a + n ≤ 4611686018427387904 → pre.length + n ≤ 4611686018427387904 → Ev (fun k => laws_heldIntS.l0 k (pre ++ upFrom a n) a (pre.length : Int)) (a + n)
  | 0, pre, a, h0, h1, h2 => by
    refine Ev.round (f := fun _ => some a) (fun k => ?_) (Ev.cast (Ev.now _) (by simp))
    simp only [laws_heldIntS.l0]
    rw [if_neg (by simp [upFrom])]
  | n + 1, pre, a, h0, h1, h2 => by
    have ih := ev_heldIntS_l n (pre ++ [a]) (a + 1) (by omega) (by omega) (by simp; omega)
    refine Ev.round (fun k => ?_) (Ev.cast ih (by omega))
    rw [upFrom]
    simp only [laws_heldIntS.l0]
    have hw : wrap64 (a + 1) = a + 1 := by unfold wrap64; omega
    have hw2 : wrap64 ((pre.length : Int) + 1) = ((pre ++ [a]).length : Int) := by unfold wrap64; simp; omega
    rw [if_pos (lt_mid _ _ _), if_pos (by omega), rd_mid, if_pos rfl, hw, hw2]
    simp
theorem ev_heldIntS (a : Int) (n : Nat) (h0 : 0 ≤ a) (h1 : a + n ≤ 4611686018427387904) : Ev (fun k => laws_heldIntS.f k (upFrom a n) a) (a + n) := ev_heldIntS_l n [] a h0 h1 (by simp; omega)
theorem szIntS_eq (l : List Int) (a : Int) : laws_szIntS.f l a = some (if wrap64 (a - (l.length : Int)) < 0 then -1 else wrap64 (a - (l.length : Int))) := by
  unfold laws_szIntS.f
  split <;> rfl
theorem rdL_mid (pre suf : List (List Int)) (x : List Int) : rd_L1 (pre ++ x :: suf) (pre.length : Int) = x := getD_mid [] pre suf x
/-- What two texts answer alike. -/
def Same {α : Type} (g h : Nat → Option α) : Prop := ∃ r, Ev g r ∧ Ev h r
theorem Same.now {α : Type} (r : α) : Same (fun _ => some r) (fun _ => some r) := ⟨r, Ev.now _, Ev.now _⟩
theorem Same.round {α : Type} {g h g' h' : Nat → Option α} (a : ∀ k, g (k + 1) = g' k) (b : ∀ k, h (k + 1) = h' k) (s : Same g' h') : Same g h := by
  obtain ⟨r, p, q⟩ := s
  exact ⟨r, Ev.round a p, Ev.round b q⟩
theorem Same.eqv {α : Type} {g h g' h' : Nat → Option α} (a : ∀ k, g k = g' k) (b : ∀ k, h k = h' k) (s : Same g' h') : Same g h := by
  obtain ⟨r, p, q⟩ := s
  exact ⟨r, Ev.eqv a p, Ev.eqv b q⟩
theorem Same.bind {α β : Type} {g h : Nat → Option α} {f f' : Nat → α → Option β} {a : α} (p : Ev g a) (q : Ev h a) (s : Same (fun n => f n a) (fun n => f' n a)) : Same (fun n => (g n).bind (f n)) (fun n => (h n).bind (f' n)) := by
  obtain ⟨r, p', q'⟩ := s
  exact ⟨r, Ev.bind p p', Ev.bind q q'⟩
def szI (x : List Int) (a : Int) : Int := if wrap64 (a - (x.length : Int)) < 0 then -1 else wrap64 (a - (x.length : Int))
def szGo (a : Int) : List (List Int) → Int
  | [] => a
  | x :: l => if szI x a < 0 then -1 else szGo (szI x a) l
def szRows (l : List (List Int)) (a : Int) : Int := if wrap64 (a - (l.length : Int)) < 0 then -1 else szGo (wrap64 (a - (l.length : Int))) l
theorem ev_szIntSS_l (l : List (List Int)) (hn : l.length ≤ 9223372036854775807) : ∀ (suf pre : List (List Int)) (a : Int), l = pre ++ suf → Ev (fun k => laws_szIntSS.l0 k l a (pre.length : Int)) (szGo a suf)
  | [], pre, a, e => by
    subst e
    refine Ev.round (f := fun _ => some a) (fun k => ?_) (Ev.now _)
    simp only [laws_szIntSS.l0]
    rw [if_neg (by simp)]
  | x :: suf, pre, a, e => by
    subst e
    have hz : laws_szIntS.f x a = some (szI x a) := szIntS_eq x a
    by_cases c : szI x a < 0
    · refine Ev.round (f := fun _ => some (-1)) (fun k => ?_) (Ev.cast (Ev.now _) (by rw [szGo, if_pos c]))
      simp only [laws_szIntSS.l0]
      rw [if_pos (lt_mid _ _ _), if_pos (by omega), rdL_mid, hz, Option.bind_some, if_pos c]
    · have ih := ev_szIntSS_l (pre ++ x :: suf) hn suf (pre ++ [x]) (szI x a) (snoc_mid _ _ _)
      refine Ev.round (fun k => ?_) (Ev.cast ih (by rw [szGo, if_neg c]))
      simp only [laws_szIntSS.l0]
      rw [if_pos (lt_mid _ _ _), if_pos (by omega), rdL_mid, hz, Option.bind_some, if_neg c, up_mid _ _ _ hn]
theorem ev_szIntSS (l : List (List Int)) (a : Int) (hn : l.length ≤ 9223372036854775807) : Ev (fun k => laws_szIntSS.f k l a) (szRows l a) := by
  unfold laws_szIntSS.f szRows
  by_cases c : wrap64 (a - (l.length : Int)) < 0
  · rw [if_pos c]
    exact Ev.ite_pos c (Ev.now _)
  · rw [if_neg c]
    exact Ev.ite_neg c (ev_szIntSS_l l hn l [] _ rfl)
theorem szI_ok {x : List Int} {a : Int} (h0 : 0 ≤ a) (ha : a ≤ 4611686018427387904) (hx : x.length ≤ 9223372036854775807) (h : ¬ szI x a < 0) : (x.length : Int) ≤ a ∧ szI x a = a - x.length := by
  have hw : wrap64 (a - (x.length : Int)) = a - x.length := by unfold wrap64; omega
  unfold szI at h ⊢
  rw [hw] at h ⊢
  by_cases c : a - (x.length : Int) < 0
  · rw [if_pos c] at h; omega
  · rw [if_neg c]; omega
theorem szGo_ok : ∀ (l : List (List Int)) (a : Int), 0 ≤ a → a ≤ 4611686018427387904 → (∀ x ∈ l, x.length ≤ 9223372036854775807) → ¬ szGo a l < 0 → (∀ x ∈ l, (x.length : Int) ≤ a) ∧ szGo a l ≤ a
  | [], a, h0, ha, hx, h => ⟨by simp, Int.le_refl _⟩
  | x :: l, a, h0, ha, hx, h => by
    rw [szGo] at h ⊢
    by_cases c : szI x a < 0
    · rw [if_pos c] at h; omega
    · rw [if_neg c] at h ⊢
      obtain ⟨h1, h2⟩ := szI_ok h0 ha (hx x (by simp)) c
      obtain ⟨h3, h4⟩ := szGo_ok l (szI x a) (by omega) (by omega) (fun y hy => hx y (by simp [hy])) h
      refine ⟨fun y hy => ?_, by omega⟩
      rcases List.mem_cons.1 hy with rfl | hy
      · exact h1
      · have := h3 y hy; omega
theorem szRows_ok {l : List (List Int)} {a : Int} (h0 : 0 ≤ a) (ha : a ≤ 4611686018427387904) (hl : l.length ≤ 9223372036854775807) (hx : ∀ x ∈ l, x.length ≤ 9223372036854775807) (h : ¬ szRows l a < 0) : (l.length : Int) ≤ a ∧ (∀ x ∈ l, (x.length : Int) ≤ a) ∧ szRows l a ≤ a := by
  have hw : wrap64 (a - (l.length : Int)) = a - l.length := by unfold wrap64; omega
  unfold szRows at h ⊢
  rw [hw] at h ⊢
  by_cases c : a - (l.length : Int) < 0
  · rw [if_pos c] at h; omega
  · rw [if_neg c] at h ⊢
    obtain ⟨h3, h4⟩ := szGo_ok l _ (by omega) (by omega) hx h
    exact ⟨by omega, fun x hx => by have := h3 x hx; omega, by omega⟩
theorem szGo_flat : ∀ (l : List (List Int)) (a : Int), 0 ≤ a → a ≤ 4611686018427387904 → (∀ x ∈ l, x.length ≤ 9223372036854775807) → ¬ szGo a l < 0 → (l.flatten.length : Int) ≤ a
  | [], a, h0, _, _, _ => by simpa using h0
  | x :: l, a, h0, ha, hx, h => by
    rw [szGo] at h
    by_cases c : szI x a < 0
    · rw [if_pos c] at h; omega
    · rw [if_neg c] at h
      obtain ⟨h1, h2⟩ := szI_ok h0 ha (hx x (by simp)) c
      have h3 := szGo_flat l (szI x a) (by omega) (by omega) (fun y hy => hx y (by simp [hy])) h
      rw [List.flatten_cons, List.length_append]
      omega
theorem szRows_flat {l : List (List Int)} {a : Int} (h0 : 0 ≤ a) (ha : a ≤ 4611686018427387904) (hl : l.length ≤ 9223372036854775807) (hx : ∀ x ∈ l, x.length ≤ 9223372036854775807) (h : ¬ szRows l a < 0) : (l.flatten.length : Int) ≤ a := by
  have hw : wrap64 (a - (l.length : Int)) = a - l.length := by unfold wrap64; omega
  unfold szRows at h
  rw [hw] at h
  by_cases c : a - (l.length : Int) < 0
  · rw [if_pos c] at h; omega
  · rw [if_neg c] at h
    have := szGo_flat l _ (by omega) (by omega) hx h
    omega
theorem ev_toIntSS_l (l : List (List Int)) (hn : l.length ≤ 11728124029610) (hx : ∀ x ∈ l, x.length ≤ 35184372088832) : ∀ (suf pre : List (List Int)), l = pre ++ suf → ∀ (z : List (List Int)), z.length = suf.length → Ev (fun k => laws_toIntSS.l0 k l (pre ++ z) (pre.length : Int)) l
  | [], pre, e, z, hz => by
    subst e
    have : z = [] := List.length_eq_zero_iff.1 hz
    subst this
    refine Ev.round (f := fun _ => some (pre ++ [])) (fun k => ?_) (Ev.now _)
    simp only [laws_toIntSS.l0]
    rw [if_neg (by simp)]
  | x :: suf, pre, e, [], hz => by simp at hz
  | x :: suf, pre, e, y :: z, hz => by
    subst e
    have ih := ev_toIntSS_l (pre ++ x :: suf) hn hx suf (pre ++ [x]) (snoc_mid _ _ _) z (by simpa using hz)
    have ht := ev_toIntS x (hx x (by simp))
    refine Ev.round (fun k => ?_) (Ev.bind ht (f := fun k t => laws_toIntSS.l0 k (pre ++ x :: suf) (pre ++ [t] ++ z) (((pre ++ [x]).length : Nat) : Int)) ih)
    simp only [laws_toIntSS.l0]
    rw [if_pos (lt_mid _ _ _), if_pos (by omega), rdL_mid]
    congr 1
    funext t
    rw [if_pos (lt_mid _ _ _), up_mid pre suf x (by omega), Int.toNat_natCast, List.set_append_right _ _ (Nat.le_refl _), Nat.sub_self, List.set_cons_zero]
    simp
theorem ev_toIntSS (l : List (List Int)) (hn : l.length ≤ 11728124029610) (hx : ∀ x ∈ l, x.length ≤ 35184372088832) : Ev (fun k => laws_toIntSS.f k l) l := by
  have h := ev_toIntSS_l l hn hx l [] rfl (List.replicate l.length []) (by simp)
  refine Ev.eqv (fun k => ?_) h
  unfold laws_toIntSS.f
  rw [if_pos (by omega), Int.toNat_natCast, if_pos hn]
  rfl
theorem ev_eqIntSS_l (a b : List (List Int)) (hab : a.length = b.length) (hn : a.length ≤ 9223372036854775807) (hx : ∀ x ∈ a, x.length ≤ 9223372036854775807) : ∀ (sa pa sb pb : List (List Int)), a = pa ++ sa → b = pb ++ sb → pa.length = pb.length → Ev (fun k => laws_eqIntSS.l0 k a b (pa.length : Int)) (decide (sa = sb))
  | [], pa, sb, pb, ea, eb, hp => by
    subst ea
    refine Ev.round (f := fun _ => some true) (fun k => ?_) (Ev.cast (Ev.now _) ?_)
    · simp only [laws_eqIntSS.l0]
      rw [if_neg (by simp)]
    · have : sb = [] := by
        rw [eb] at hab
        simp at hab
        exact List.length_eq_zero_iff.1 (by omega)
      rw [this]; rfl
  | x :: sa, pa, [], pb, ea, eb, hp => by
    rw [ea, eb] at hab
    simp at hab
    omega
  | x :: sa, pa, y :: sb, pb, ea, eb, hp => by
    subst ea
    subst eb
    have h1 : ((pa.length : Nat) : Int) = (pb.length : Int) := by omega
    have h2 : (pa.length : Int) < ((pb ++ y :: sb).length : Int) := by rw [h1]; exact lt_mid _ _ _
    have h3 : rd_L1 (pb ++ y :: sb) (pa.length : Int) = y := by rw [h1]; exact rdL_mid _ _ _
    have he := ev_eqIntS x y (hx x (by simp))
    have ih := fun (e : x = y) => ev_eqIntSS_l (pa ++ x :: sa) (pb ++ y :: sb) hab hn hx sa (pa ++ [x]) sb (pb ++ [y]) (snoc_mid _ _ _) (snoc_mid _ _ _) (by simp [hp])
    refine Ev.round (fun k => ?_) (Ev.bind he (f := fun k t => if t = true then laws_eqIntSS.l0 k (pa ++ x :: sa) (pb ++ y :: sb) (((pa ++ [x]).length : Nat) : Int) else some false) ?_)
    · simp only [laws_eqIntSS.l0]
      rw [if_pos (lt_mid _ _ _), if_pos (by omega), if_pos h2, rdL_mid, h3, up_mid _ _ _ hn]
    · by_cases e : x = y
      · exact Ev.ite_pos (by simp [e]) (Ev.cast (ih e) (by simp [e]))
      · exact Ev.ite_neg (by simp [e]) (Ev.cast (Ev.now _) (by simp [e]))
theorem ev_eqIntSS (a b : List (List Int)) (hn : a.length ≤ 9223372036854775807) (hx : ∀ x ∈ a, x.length ≤ 9223372036854775807) : Ev (fun k => laws_eqIntSS.f k a b) (decide (a = b)) := by
  unfold laws_eqIntSS.f
  by_cases h : a.length = b.length
  · exact Ev.ite_pos (by omega) (ev_eqIntSS_l a b h hn hx a [] b [] rfl rfl rfl)
  · refine Ev.ite_neg (by omega) (Ev.cast (Ev.now _) ?_)
    rw [decide_eq_false]
    rintro rfl
    exact h rfl
/-- All rows are as long as n says, and lie from 0 up to hi. -/
def rowsB (n : Nat) (hi : Int) (l : List (List Int)) : Bool := l.all fun x => decide (x.length = n) && allIn x 0 hi
theorem rowsB_iff {n : Nat} {hi : Int} {l : List (List Int)} : rowsB n hi l = true ↔ ∀ x ∈ l, x.length = n ∧ ∀ v ∈ x, 0 ≤ v ∧ v ≤ hi := by
  unfold rowsB
  rw [List.all_eq_true]
  refine forall_congr' fun x => ?_
  rw [Bool.and_eq_true, decide_eq_true_eq, allIn_iff]
theorem rdL_mem {l : List (List Int)} {p : Int} (h0 : 0 ≤ p) (h1 : p < (l.length : Int)) : rd_L1 l p ∈ l := by
  unfold rd_L1
  exact getD_mem _ (by omega)
def netB (l : List (List Int)) : Bool := (decide (2 ≤ (l.length : Int)) && decide ((l.length : Int) ≤ 8)) && rowsB l.length 50 l
theorem netB_iff {l : List (List Int)} (h : netB l = true) : (2 ≤ l.length ∧ l.length ≤ 8) ∧ ∀ x ∈ l, x.length = l.length ∧ ∀ v ∈ x, 0 ≤ v ∧ v ≤ 50 := by
  unfold netB at h
  rw [Bool.and_eq_true, rowsB_iff] at h
  refine ⟨?_, h.2⟩
  have := h.1
  simp at this
  omega
theorem ev_l13Rows_l (l : List (List Int)) (hn : l.length ≤ 9223372036854775807) (hx : ∀ x ∈ l, x.length ≤ 9223372036854775807) : ∀ (suf pre : List (List Int)), l = pre ++ suf →
    Ev (fun k => spec_l13Rows.l0 k l l (l.length : Int) (pre.length : Int)) (rowsB l.length 50 suf && (decide (2 ≤ (l.length : Int)) && decide ((l.length : Int) ≤ 8)))
  | [], pre, e => by
    subst e
    refine Ev.round (f := fun _ => some (decide (2 ≤ ((pre ++ []).length : Int)) && decide (((pre ++ []).length : Int) ≤ 8))) (fun k => ?_) (Ev.cast (Ev.now _) (by simp [rowsB]))
    simp only [spec_l13Rows.l0]
    rw [if_neg (by simp), in_eq, Option.bind_some]
  | x :: suf, pre, e => by
    subst e
    have ih := ev_l13Rows_l (pre ++ x :: suf) hn hx suf (pre ++ [x]) (snoc_mid _ _ _)
    generalize hN : (pre ++ x :: suf).length = N at ih ⊢
    by_cases c : x.length = N
    · have ha := ev_l1All x 0 50 (hx x (by simp))
      refine Ev.round (fun k => ?_) (Ev.bind ha (f := fun k t => if t = true then spec_l13Rows.l0 k (pre ++ x :: suf) (pre ++ x :: suf) (N : Int) (((pre ++ [x]).length : Nat) : Int) else some false) ?_)
      · simp only [spec_l13Rows.l0]
        rw [if_pos (by rw [← hN]; exact lt_mid _ _ _), if_pos (by omega), if_pos (lt_mid _ _ _), rdL_mid, hN, if_pos (by omega), up_mid _ _ _ hn]
      · by_cases d : allIn x 0 50 = true
        · exact Ev.ite_pos d (Ev.cast ih (by unfold rowsB; rw [List.all_cons, d, decide_eq_true c]; rfl))
        · exact Ev.ite_neg d (Ev.cast (Ev.now _) (by unfold rowsB; rw [List.all_cons, Bool.eq_false_iff.2 d]; simp))
    · refine Ev.round (f := fun _ => some false) (fun k => ?_) (Ev.cast (Ev.now _) (by unfold rowsB; rw [List.all_cons, decide_eq_false c]; simp))
      simp only [spec_l13Rows.l0]
      rw [if_pos (by rw [← hN]; exact lt_mid _ _ _), if_pos (by omega), if_pos (lt_mid _ _ _), rdL_mid, hN, if_neg (by omega)]
theorem ev_l13Rows (l : List (List Int)) (hn : l.length ≤ 9223372036854775807) (hx : ∀ x ∈ l, x.length ≤ 9223372036854775807) : Ev (fun k => spec_l13Rows.f k l) (netB l) :=
  Ev.cast (ev_l13Rows_l l hn hx l [] rfl) (Bool.and_comm _ _)
theorem areRows_eq (l : List (List Int)) : impl_areRows.f l = some (netB l) := rfl
/-- Nothing but 0 on the diagonal. -/
def diagZ : Int → List (List Int) → Bool
  | _, [] => true
  | i, x :: l => decide (rd x i = 0) && diagZ (i + 1) l
def goodNetB (l : List (List Int)) : Bool := netB l && diagZ 0 l
theorem goodNetB_iff {l : List (List Int)} (h : goodNetB l = true) : (2 ≤ l.length ∧ l.length ≤ 8) ∧ ∀ x ∈ l, x.length = l.length ∧ ∀ v ∈ x, 0 ≤ v ∧ v ≤ 50 := by
  unfold goodNetB at h
  rw [Bool.and_eq_true] at h
  exact netB_iff h.1
theorem ev_diag_l (l : List (List Int)) (hn : l.length ≤ 8) (hx : ∀ x ∈ l, x.length = l.length) : ∀ (suf pre : List (List Int)), l = pre ++ suf →
    Ev (fun k => spec_GoodNet.l0 k l (l.length : Int) (pre.length : Int)) (diagZ (pre.length : Int) suf) ∧ Ev (fun k => impl_GoodNet.l0 k l (l.length : Int) (pre.length : Int)) (diagZ (pre.length : Int) suf)
  | [], pre, e => by
    subst e
    refine ⟨Ev.round (f := fun _ => some true) (fun k => ?_) (Ev.now _), Ev.round (f := fun _ => some true) (fun k => ?_) (Ev.now _)⟩
    · simp only [spec_GoodNet.l0]
      rw [if_neg (by simp)]
    · simp only [impl_GoodNet.l0]
      rw [if_neg (by simp)]
  | x :: suf, pre, e => by
    have ih := ev_diag_l l hn hx suf (pre ++ [x]) (by rw [e]; simp)
    have hxl := hx x (by rw [e]; simp)
    have h1 : (pre.length : Int) < (l.length : Int) := by rw [e]; exact lt_mid _ _ _
    have h2 : rd_L1 l (pre.length : Int) = x := by rw [e]; exact rdL_mid _ _ _
    have h3 : wrap64 ((pre.length : Int) + 1) = ((pre ++ [x]).length : Int) := by rw [List.length_append, List.length_singleton]; unfold wrap64; omega
    have h4 : ((pre ++ [x]).length : Int) = (pre.length : Int) + 1 := by simp
    by_cases c : rd x (pre.length : Int) = 0
    · refine ⟨Ev.round (fun k => ?_) (Ev.cast ih.1 (by rw [diagZ, decide_eq_true c, Bool.true_and, h4])), Ev.round (fun k => ?_) (Ev.cast ih.2 (by rw [diagZ, decide_eq_true c, Bool.true_and, h4]))⟩
      · simp only [spec_GoodNet.l0]
        rw [if_pos h1, if_pos (by omega), if_pos h1, h2, if_pos (by omega), if_pos c, h3]
      · simp only [impl_GoodNet.l0]
        rw [if_pos h1, if_pos (by omega), if_pos h1, h2, if_pos (by omega), if_pos c, h3]
    · refine ⟨Ev.round (f := fun _ => some false) (fun k => ?_) (Ev.cast (Ev.now _) (by rw [diagZ, decide_eq_false c]; rfl)), Ev.round (f := fun _ => some false) (fun k => ?_) (Ev.cast (Ev.now _) (by rw [diagZ, decide_eq_false c]; rfl))⟩
      · simp only [spec_GoodNet.l0]
        rw [if_pos h1, if_pos (by omega), if_pos h1, h2, if_pos (by omega), if_neg c]
      · simp only [impl_GoodNet.l0]
        rw [if_pos h1, if_pos (by omega), if_pos h1, h2, if_pos (by omega), if_neg c]
theorem ev_GoodNet (l : List (List Int)) (hn : l.length ≤ 9223372036854775807) (hx : ∀ x ∈ l, x.length ≤ 9223372036854775807) : Ev (fun k => spec_GoodNet.f k l) (goodNetB l) := by
  unfold spec_GoodNet.f goodNetB
  refine Ev.bind (ev_l13Rows l hn hx) ?_
  by_cases c : netB l = true
  · have h := netB_iff c
    exact Ev.ite_pos c (Ev.cast (ev_diag_l l h.1.2 (fun x hx => (h.2 x hx).1) l [] rfl).1 (by rw [c]; rfl))
  · exact Ev.ite_neg c (Ev.cast (Ev.now _) (by rw [Bool.eq_false_iff.2 c]; rfl))
theorem ev_implGoodNet (l : List (List Int)) : Ev (fun k => impl_GoodNet.f k l) (goodNetB l) := by
  unfold impl_GoodNet.f goodNetB
  refine Ev.bindc (areRows_eq l) ?_
  by_cases c : netB l = true
  · have h := netB_iff c
    exact Ev.ite_pos c (Ev.cast (ev_diag_l l h.1.2 (fun x hx => (h.2 x hx).1) l [] rfl).2 (by rw [c]; rfl))
  · exact Ev.ite_neg c (Ev.cast (Ev.now _) (by rw [Bool.eq_false_iff.2 c]; rfl))
def markR : Int → List (List Int) → List (List Int)
  | _, [] => []
  | a, x :: l => upFrom a x.length :: markR (a + x.length) l
theorem markS_run : ∀ (suf pre : List Int) (a : Int) (k : Nat), 0 ≤ a → a + suf.length ≤ 4611686018427387904 → pre.length + suf.length ≤ 4611686018427387904 → suf.length < k → laws_markIntS.l0 k (pre ++ suf) a (pre.length : Int) = some (a + suf.length, pre ++ upFrom a suf.length)
  | [], pre, a, k, h0, h1, h2, hk => by
    obtain ⟨k, rfl⟩ : ∃ j, k = j + 1 := ⟨k - 1, by simp at hk; omega⟩
    simp only [laws_markIntS.l0]
    rw [if_neg (by simp)]
    simp [upFrom]
  | x :: suf, pre, a, k, h0, h1, h2, hk => by
    rw [List.length_cons] at h1 h2 hk
    obtain ⟨k, rfl⟩ : ∃ j, k = j + 1 := ⟨k - 1, by omega⟩
    have ih := markS_run suf (pre ++ [a]) (a + 1) k (by omega) (by omega) (by simp; omega) (by omega)
    simp only [laws_markIntS.l0]
    have hw : wrap64 (a + 1) = a + 1 := by unfold wrap64; omega
    have hw2 : wrap64 ((pre.length : Int) + 1) = ((pre ++ [a]).length : Int) := by unfold wrap64; simp; omega
    rw [if_pos (lt_mid _ _ _), if_pos (by omega), hw, hw2, Int.toNat_natCast, List.set_append_right _ _ (Nat.le_refl _), Nat.sub_self, List.set_cons_zero, show pre ++ a :: suf = (pre ++ [a]) ++ suf from by simp, ih, List.length_cons, upFrom]
    simp
    omega
theorem markS_eq (l : List Int) (a : Int) (h0 : 0 ≤ a) (h1 : a + l.length ≤ 4611686018427387904) : laws_markIntS.f (l.length + 1) l a = some (a + l.length, upFrom a l.length) := markS_run l [] a _ h0 h1 (by simp; omega) (Nat.lt_succ_self _)
theorem markSS_eq : ∀ (l : List (List Int)) (a : Int), 0 ≤ a → a + (l.flatten.length : Int) ≤ 4611686018427387904 → laws_markIntSS.g l a = some (a + l.flatten.length, markR a l)
  | [], a, _, _ => by simp [laws_markIntSS.g, markR]
  | x :: l, a, h0, h1 => by
    rw [List.flatten_cons, List.length_append] at h1
    rw [laws_markIntSS.g, markS_eq x a h0 (by omega), Option.bind_some, markSS_eq l (a + x.length) (by omega) (by omega), Option.bind_some, markR, List.flatten_cons, List.length_append]
    congr 2
    omega
theorem rdset_eq (l : List Int) (v : Int) {p : Int} (h0 : 0 ≤ p) (h : p < (l.length : Int)) : rd (l.set p.toNat v) p = v := by
  show (l.set p.toNat v).getD p.toNat 0 = v
  rw [List.getD_eq_getElem?_getD, List.getElem?_set_self (by omega)]
  rfl
theorem rdset_ne (l : List Int) (v : Int) {p q : Int} (h0 : 0 ≤ p) (h1 : 0 ≤ q) (h : p ≠ q) : rd (l.set p.toNat v) q = rd l q := by
  show (l.set p.toNat v).getD q.toNat 0 = l.getD q.toNat 0
  rw [List.getD_eq_getElem?_getD, List.getD_eq_getElem?_getD, List.getElem?_set_ne (by omega)]
/-- How many are not come to. -/
def negs (f : List Int) : Nat := f.countP fun v => decide (v < 0)
theorem negs_set : ∀ (f : List Int) (i : Nat) (v : Int), i < f.length → f.getD i 0 < 0 → 0 ≤ v → negs (f.set i v) + 1 = negs f
  | [], i, v, h, _, _ => by simp at h
  | x :: f, 0, v, h, h1, h2 => by
    have h1 : x < 0 := h1
    unfold negs
    rw [List.set_cons_zero, List.countP_cons_of_neg (by simpa using h2), List.countP_cons_of_pos (by simpa using h1)]
  | x :: f, i + 1, v, h, h1, h2 => by
    have ih := negs_set f i v (by simpa using h) (by simpa using h1) h2
    unfold negs at ih ⊢
    rw [List.set_cons_succ, List.countP_cons, List.countP_cons]
    omega
structure Inv13 (W F : List (List Int)) (n : Nat) (f dis : List Int) : Prop where
  len : f.length = n
  zero : rd f 0 = 0
  many : negs f + dis.length = n
  inn : ∀ b ∈ dis, 0 ≤ b ∧ b < (n : Int) ∧ 0 ≤ rd f b
  all : ∀ b : Int, 0 ≤ b → b < (n : Int) → 0 ≤ rd f b → b ∈ dis
  up : ∀ pre b post, dis = pre ++ b :: post → b ≠ 0 → rd f b ∈ pre
  nd : dis.Nodup
  room : ∀ b ∈ dis, b ≠ 0 → ∃ z, z > 0 ∧ spec_l13Room.f W F (rd f b) b = some z
structure Rel13 (n : Nat) (f s : List Int) : Prop where
  len : s.length = n
  zero : rd s 0 = -1
  each : ∀ i : Int, 1 ≤ i → i < (n : Int) → rd s i = if rd f i < 0 then -2 else rd f i
theorem Inv13.push {W F : List (List Int)} {n : Nat} {f dis : List Int} (h : Inv13 W F n f dis) {a b : Int} (ha : a ∈ dis) (hb0 : 0 ≤ b) (hb : b < (n : Int)) (hn : rd f b < 0) (hrm : ∃ z, z > 0 ∧ spec_l13Room.f W F a b = some z) : Inv13 W F n (f.set b.toNat a) (dis ++ [b]) := by
  have hl := h.len
  have hz := h.zero
  have hb1 : b ≠ 0 := fun e => by rw [e] at hn; omega
  have hbd : b ∉ dis := fun hm => by have := (h.inn b hm).2.2; omega
  have hap := h.inn a ha
  refine ⟨by rw [List.length_set]; exact hl, by rw [rdset_ne f a hb0 (Int.le_refl 0) hb1]; exact hz, ?_, fun c hc => ?_, fun c hc0 hc1 hc => ?_, fun pre c post e hc => ?_, ?_, fun c hc hc0 => ?_⟩
  · have := negs_set f b.toNat a (by omega) hn hap.1
    have := h.many
    rw [List.length_append, List.length_singleton]
    omega
  · rcases List.mem_append.1 hc with hc | hc
    · have h1 := h.inn c hc
      refine ⟨h1.1, h1.2.1, ?_⟩
      rw [rdset_ne f a hb0 h1.1 (fun e => hbd (e ▸ hc))]
      exact h1.2.2
    · rw [List.mem_singleton] at hc
      subst hc
      refine ⟨hb0, hb, ?_⟩
      rw [rdset_eq f a hb0 (by omega)]
      exact hap.1
  · by_cases e : b = c
    · subst e; simp
    · rw [rdset_ne f a hb0 hc0 e] at hc
      exact List.mem_append_left _ (h.all c hc0 hc1 hc)
  · rcases List.eq_nil_or_concat post with rfl | ⟨post', y, rfl⟩
    · have e2 := List.append_inj' e (by simp)
      obtain ⟨rfl, e3⟩ := e2
      simp only [List.cons.injEq, and_true] at e3
      subst e3
      rw [rdset_eq f a hb0 (by omega)]
      exact ha
    · have e2 : dis ++ [b] = (pre ++ c :: post') ++ [y] := by rw [e]; simp
      obtain ⟨e3, e4⟩ := List.append_inj' e2 (by simp)
      have hcm : c ∈ dis := by rw [e3]; simp
      have hcn := h.inn c hcm
      rw [rdset_ne f a hb0 hcn.1 (fun e => hbd (e ▸ hcm))]
      exact h.up pre c post' e3 hc
  · rw [List.nodup_append]
    refine ⟨h.nd, by simp, fun x hx y hy => ?_⟩
    rw [List.mem_singleton] at hy
    subst hy
    exact fun e => hbd (e ▸ hx)
  · rcases List.mem_append.1 hc with hc | hc
    · have h1 := h.inn c hc
      rw [rdset_ne f a hb0 h1.1 (fun e => hbd (e ▸ hc))]
      exact h.room c hc hc0
    · rw [List.mem_singleton] at hc
      subst hc
      rw [rdset_eq f a hb0 (by omega)]
      exact hrm
theorem Rel13.push {n : Nat} {f s : List Int} (h : Rel13 n f s) (hf : f.length = n) {a b : Int} (ha : 0 ≤ a) (hb0 : 1 ≤ b) (hb : b < (n : Int)) : Rel13 n (f.set b.toNat a) (s.set b.toNat a) := by
  have hl := h.len
  refine ⟨by rw [List.length_set]; exact hl, by rw [rdset_ne s a (by omega) (Int.le_refl 0) (by omega)]; exact h.zero, fun i h0 h1 => ?_⟩
  by_cases e : b = i
  · subst e
    rw [rdset_eq f a (by omega) (by omega), rdset_eq s a (by omega) (by omega), if_neg (by omega)]
  · rw [rdset_ne f a (by omega) (by omega) e, rdset_ne s a (by omega) (by omega) e]
    exact h.each i h0 h1
theorem room_ok (W F : List (List Int)) (n : Nat) (hW : W.length = n) (hF : F.length = n) (hWx : ∀ x ∈ W, x.length = n) (hFx : ∀ x ∈ F, x.length = n) (a b : Int) (ha : 0 ≤ a ∧ a < (n : Int)) (hb : 0 ≤ b ∧ b < (n : Int)) : ∃ z, spec_l13Room.f W F a b = some z ∧ impl_room.f W F a b = some z := by
  have h1 : (rd_L1 W a).length = n := hWx _ (rdL_mem ha.1 (by omega))
  have h2 : (rd_L1 F a).length = n := hFx _ (rdL_mem ha.1 (by omega))
  have h3 : (rd_L1 F b).length = n := hFx _ (rdL_mem hb.1 (by omega))
  refine ⟨wrap64 ((wrap64 ((rd (rd_L1 W a) b) - (rd (rd_L1 F a) b))) + (rd (rd_L1 F b) a)), ?_, ?_⟩
  · unfold spec_l13Room.f
    rw [if_pos ha.1, if_pos (by omega), if_pos hb.1, if_pos (by omega), if_pos (by omega), if_pos (by omega), if_pos (by omega), if_pos (by omega)]
  · unfold impl_room.f
    rw [if_pos ha.1, if_pos (by omega), if_pos hb.1, if_pos (by omega), if_pos (by omega), if_pos (by omega), if_pos (by omega), if_pos (by omega)]
theorem come_in (W F : List (List Int)) (n : Nat) (hn : n ≤ 8) (hW : W.length = n) (hF : F.length = n) (hWx : ∀ x ∈ W, x.length = n) (hFx : ∀ x ∈ F, x.length = n) (a : Int) (d0 : List Int) : ∀ (m b : Nat) (f s q dis : List Int), b + m = n → Inv13 W F n f dis → Rel13 n f s → dis = d0 ++ a :: q →
    ∃ f' s' q' dis', Inv13 W F n f' dis' ∧ Rel13 n f' s' ∧ dis' = d0 ++ a :: q' ∧ negs f' + q'.length = negs f + q.length ∧ (∀ R, Ev (fun k => spec_l13Come.l1 k W F s' q') R → Ev (fun k => spec_l13Come.l2 k W F s q a (W.length : Int) (b : Int)) R) ∧ (∀ R, Ev (fun k => impl_comeTo.l0 k W F f' q') R → Ev (fun k => impl_comeTo.l1 k W F f (a :: q) (W.length : Int) (b : Int)) R)
  | 0, b, f, s, q, dis, hb, hI, hR, hd => by
    refine ⟨f, s, q, dis, hI, hR, hd, rfl, fun R h => ?_, fun R h => ?_⟩
    · exact Ev.round (fun k => by simp only [spec_l13Come.l2]; rw [if_neg (by omega)]) h
    · refine Ev.round (fun k => by simp only [impl_comeTo.l1]; rw [if_neg (by omega), if_pos (by rw [List.length_cons]; omega)]) ?_
      exact h
  | m + 1, b, f, s, q, dis, hb, hI, hR, hd => by
    have hw : wrap64 ((b : Int) + 1) = ((b + 1 : Nat) : Int) := by unfold wrap64; omega
    have ham : a ∈ dis := by rw [hd]; simp
    have ha := hI.inn a ham
    have hfl := hI.len
    have hsl := hR.len
    obtain ⟨z, hz1, hz2⟩ := room_ok W F n hW hF hWx hFx a (b : Int) ⟨ha.1, ha.2.1⟩ ⟨by omega, by omega⟩
    have hq : q.length ≤ 8 := by have := hI.many; rw [hd, List.length_append, List.length_cons] at this; omega
    by_cases c : rd f (b : Int) < 0
    · have hb1 : 1 ≤ b := by
        rcases Nat.eq_zero_or_pos b with rfl | h
        · have := hI.zero; rw [show ((0 : Nat) : Int) = 0 from rfl] at c; omega
        · exact h
      have hsb : rd s (b : Int) = -2 := by rw [hR.each (b : Int) (by omega) (by omega), if_pos c]
      by_cases cz : z > 0
      · obtain ⟨f', s', q', dis', i1, i2, i3, i4, i5, i6⟩ := come_in W F n hn hW hF hWx hFx a d0 m (b + 1) (f.set b a) (s.set b a) (q ++ [(b : Int)]) (dis ++ [(b : Int)]) (by omega)
          (by have := hI.push ham (show (0 : Int) ≤ b by omega) (show (b : Int) < n by omega) c ⟨z, cz, hz1⟩; simpa using this)
          (by have := hR.push hfl ha.1 (show (1 : Int) ≤ b by omega) (show (b : Int) < n by omega); simpa using this) (by rw [hd]; simp)
        have hng := negs_set f b a (by omega) c ha.1
        refine ⟨f', s', q', dis', i1, i2, i3, ?_, fun R h => ?_, fun R h => ?_⟩
        · rw [List.length_append, List.length_singleton] at i4
          omega
        · refine Ev.round (fun k => by simp only [spec_l13Come.l2]; rw [if_pos (show (b : Int) < (W.length : Int) by omega), hw, Int.toNat_natCast]) ?_
          exact Ev.ite_pos (by omega) (Ev.ite_pos (by omega) (Ev.ite_pos hsb (Ev.bindc hz1 (Ev.ite_pos cz (Ev.ite_pos (by omega) (i5 R h))))))
        · refine Ev.round (fun k => by simp only [impl_comeTo.l1]; rw [if_pos (show (b : Int) < (W.length : Int) by omega), hw, Int.toNat_natCast]) ?_
          refine Ev.ite_pos (by omega) (Ev.ite_pos (by omega) (Ev.ite_pos c (Ev.ite_pos (by rw [List.length_cons]; omega) (Ev.bindc (show impl_room.f W F (rd (a :: q) 0) (b : Int) = some z from hz2) (Ev.ite_pos cz (Ev.ite_pos (by rw [List.length_cons]; omega) ?_))))))
          exact i6 R h
      · obtain ⟨f', s', q', dis', i1, i2, i3, i4, i5, i6⟩ := come_in W F n hn hW hF hWx hFx a d0 m (b + 1) f s q dis (by omega) hI hR hd
        refine ⟨f', s', q', dis', i1, i2, i3, i4, fun R h => ?_, fun R h => ?_⟩
        · refine Ev.round (fun k => by simp only [spec_l13Come.l2]; rw [if_pos (show (b : Int) < (W.length : Int) by omega), hw]) ?_
          exact Ev.ite_pos (by omega) (Ev.ite_pos (by omega) (Ev.ite_pos hsb (Ev.bindc hz1 (Ev.ite_neg cz (i5 R h)))))
        · refine Ev.round (fun k => by simp only [impl_comeTo.l1]; rw [if_pos (show (b : Int) < (W.length : Int) by omega), hw]) ?_
          exact Ev.ite_pos (by omega) (Ev.ite_pos (by omega) (Ev.ite_pos c (Ev.ite_pos (by rw [List.length_cons]; omega) (Ev.bindc (show impl_room.f W F (rd (a :: q) 0) (b : Int) = some z from hz2) (Ev.ite_neg cz (i6 R h))))))
    · have hsb : ¬ rd s (b : Int) = -2 := by
        rcases Nat.eq_zero_or_pos b with rfl | h
        · rw [show ((0 : Nat) : Int) = 0 from rfl, hR.zero]; decide
        · rw [hR.each (b : Int) (by omega) (by omega), if_neg c]; omega
      obtain ⟨f', s', q', dis', i1, i2, i3, i4, i5, i6⟩ := come_in W F n hn hW hF hWx hFx a d0 m (b + 1) f s q dis (by omega) hI hR hd
      refine ⟨f', s', q', dis', i1, i2, i3, i4, fun R h => ?_, fun R h => ?_⟩
      · refine Ev.round (fun k => by simp only [spec_l13Come.l2]; rw [if_pos (show (b : Int) < (W.length : Int) by omega), hw]) ?_
        exact Ev.ite_pos (by omega) (Ev.ite_pos (by omega) (Ev.ite_neg hsb (i5 R h)))
      · refine Ev.round (fun k => by simp only [impl_comeTo.l1]; rw [if_pos (show (b : Int) < (W.length : Int) by omega), hw]) ?_
        exact Ev.ite_pos (by omega) (Ev.ite_pos (by omega) (Ev.ite_neg c (i6 R h)))
theorem come_out (W F : List (List Int)) (n : Nat) (hn : n ≤ 8) (hW : W.length = n) (hF : F.length = n) (hWx : ∀ x ∈ W, x.length = n) (hFx : ∀ x ∈ F, x.length = n) : ∀ (M : Nat) (f s q d0 : List Int), Inv13 W F n f (d0 ++ q) → Rel13 n f s → negs f + q.length ≤ M →
    ∃ f' s' dis', Inv13 W F n f' dis' ∧ Rel13 n f' s' ∧ Ev (fun k => spec_l13Come.l1 k W F s q) s' ∧ Ev (fun k => impl_comeTo.l0 k W F f q) f'
  | M, f, s, [], d0, hI, hR, hm => by
    refine ⟨f, s, d0 ++ [], hI, hR, Ev.round (f := fun _ => some s) (fun k => by simp only [spec_l13Come.l1]; rw [if_neg (by simp)]) (Ev.now _), Ev.round (f := fun _ => some f) (fun k => by simp only [impl_comeTo.l0]; rw [if_neg (by simp)]) (Ev.now _)⟩
  | 0, f, s, a :: q, d0, hI, hR, hm => by simp at hm
  | M + 1, f, s, a :: q, d0, hI, hR, hm => by
    obtain ⟨f1, s1, q1, dis1, i1, i2, i3, i4, i5, i6⟩ := come_in W F n hn hW hF hWx hFx a d0 n 0 f s q (d0 ++ a :: q) (by omega) hI hR rfl
    rw [List.length_cons] at hm
    obtain ⟨f2, s2, dis2, j1, j2, j4, j5⟩ := come_out W F n hn hW hF hWx hFx M f1 s1 q1 (d0 ++ [a]) (by rw [i3] at i1; simpa using i1) i2 (by omega)
    refine ⟨f2, s2, dis2, j1, j2, ?_, ?_⟩
    · refine Ev.round (fun k => by simp only [spec_l13Come.l1]; rw [if_pos (by rw [List.length_cons]; omega), if_pos (by rw [List.length_cons]; omega), if_pos (by rw [List.length_cons]; omega)]) ?_
      exact i5 s2 j4
    · refine Ev.round (fun k => by simp only [impl_comeTo.l0]; rw [if_pos (by rw [List.length_cons]; omega)]) ?_
      exact i6 f2 j5
theorem come_fill (W F : List (List Int)) (R : List Int) (n : Nat) (hn : n ≤ 8) : ∀ (m b : Nat) (x : List Int), b + m = n → x.length = n → x.take b = List.replicate b (-2) → Ev (fun k => spec_l13Come.l1 k W F ((List.replicate n (-2)).set 0 (-1)) [0]) R → 0 < n → Ev (fun k => spec_l13Come.l0 k W F x (n : Int) (b : Int)) R
  | 0, b, x, hb, hx, ht, h, h0 => by
    obtain rfl : b = n := by omega
    have e : x = List.replicate b (-2) := by
      rw [List.take_of_length_le (by omega)] at ht
      exact ht
    refine Ev.round (fun k => by simp only [spec_l13Come.l0]; rw [if_neg (by omega)]) ?_
    rw [e]
    exact Ev.ite_pos (by rw [List.length_replicate]; omega) h
  | m + 1, b, x, hb, hx, ht, h, h0 => by
    have hw : wrap64 ((b : Int) + 1) = ((b + 1 : Nat) : Int) := by unfold wrap64; omega
    refine Ev.round (fun k => by simp only [spec_l13Come.l0]; rw [if_pos (show (b : Int) < (n : Int) by omega), hw, Int.toNat_natCast]) ?_
    refine Ev.ite_pos (by omega) (Ev.ite_pos (by omega) ?_)
    refine come_fill W F R n hn m (b + 1) (x.set b (-2)) (by omega) (by rw [List.length_set]; exact hx) ?_ h h0
    rw [List.replicate_succ', ← ht]
    apply List.ext_getElem?
    intro j
    rw [List.getElem?_take, List.getElem?_append, List.length_take, hx, Nat.min_eq_left (by omega), List.getElem?_take]
    by_cases c : j < b
    · rw [if_pos (by omega), if_pos c, if_pos c, List.getElem?_set_ne (by omega)]
    · rw [if_neg c]
      by_cases d : j = b
      · subst d
        rw [if_pos (by omega), List.getElem?_set_self (by omega), Nat.sub_self]
        rfl
      · rw [if_neg (by omega), List.getElem?_eq_none (by simp; omega)]
theorem come_all (W F : List (List Int)) (n : Nat) (hn : n ≤ 8) (h0 : 0 < n) (hW : W.length = n) (hF : F.length = n) (hWx : ∀ x ∈ W, x.length = n) (hFx : ∀ x ∈ F, x.length = n) :
    ∃ f s dis, Inv13 W F n f dis ∧ Rel13 n f s ∧ Ev (fun k => spec_l13Come.f k W F) s ∧ Ev (fun k => impl_comeTo.f k W F) f := by
  have hrep : ∀ (v : Int) (p : Int), 0 ≤ p → p < (n : Int) → rd (List.replicate n v) p = v := fun v p hp hp2 => by
    show (List.replicate n v).getD p.toNat 0 = v
    rw [List.getD_eq_getElem?_getD, List.getElem?_replicate, if_pos (by omega)]
    rfl
  have hng : negs (List.replicate n (-1)) = n := by
    unfold negs
    rw [List.countP_replicate]
    simp
  have hz : ∀ v : Int, (List.replicate n v).set 0 = (List.replicate n v).set (0 : Int).toNat := fun _ => rfl
  have hI : Inv13 W F n ((List.replicate n (-1)).set (0 : Int).toNat 0) ([] ++ [0]) := by
    refine ⟨by simp, rdset_eq _ _ (Int.le_refl 0) (by simp; omega), ?_, fun b hb => ?_, fun b hb0 hb1 hb => ?_, fun pre b post e hb => ?_, by simp, fun b hb hb0 => absurd (by simpa using hb) hb0⟩
    · have := negs_set (List.replicate n (-1)) 0 0 (by simpa using h0) (by have := hrep (-1) 0 (Int.le_refl 0) (by omega); have h2 : (List.replicate n (-1 : Int)).getD 0 0 = -1 := this; omega) (Int.le_refl 0)
      rw [hng] at this
      show negs ((List.replicate n (-1)).set 0 0) + 1 = n
      omega
    · have : b = 0 := by simpa using hb
      subst this
      refine ⟨Int.le_refl 0, by omega, ?_⟩
      rw [rdset_eq _ _ (Int.le_refl 0) (by simp; omega)]
      exact Int.le_refl 0
    · by_cases e : 0 = b
      · subst e; simp
      · rw [rdset_ne _ _ (Int.le_refl 0) hb0 e, hrep _ _ hb0 hb1] at hb
        omega
    · exfalso
      cases pre with
      | nil => simp at e; omega
      | cons x pre => simp at e
  have hR : Rel13 n ((List.replicate n (-1)).set (0 : Int).toNat 0) ((List.replicate n (-2)).set (0 : Int).toNat (-1)) := by
    refine ⟨by simp, rdset_eq _ _ (Int.le_refl 0) (by simp; omega), fun i hi0 hi1 => ?_⟩
    rw [rdset_ne _ _ (Int.le_refl 0) (by omega) (by omega), rdset_ne _ _ (Int.le_refl 0) (by omega) (by omega), hrep _ _ (by omega) hi1, hrep _ _ (by omega) hi1]
    rfl
  obtain ⟨f, s, dis, j1, j2, j3, j4⟩ := come_out W F n hn hW hF hWx hFx (negs ((List.replicate n (-1)).set (0 : Int).toNat 0) + 1) _ _ [0] [] hI hR (Nat.le_refl _)
  refine ⟨f, s, dis, j1, j2, ?_, ?_⟩
  · unfold spec_l13Come.f
    refine Ev.ite_pos (by omega) (Ev.ite_pos (by rw [Int.toNat_natCast]; omega) (Ev.bindc rfl ?_))
    rw [List.length_replicate, Int.toNat_natCast, hW]
    exact come_fill W F s n hn n 0 _ (by omega) (by simp) rfl j3 h0
  · unfold impl_comeTo.f
    refine Ev.bindc (show slices_Repeat_int_int.f [(-1)] (W.length : Int) = some (List.replicate n (-1)) from ?_) (Ev.ite_pos (by rw [List.length_replicate]; omega) j4)
    show (if 1 ≤ (W.length : Int) ∧ (W.length : Int) ≤ 1000000 then some (List.replicate (W.length : Int).toNat (-1)) else none) = _
    rw [if_pos (by omega), Int.toNat_natCast, hW]
theorem ev_Reverse_l : ∀ (N : Nat) (m A B : List Int), m.length ≤ N → A.length + m.length + B.length ≤ 100 → Ev (fun k => slices_Reverse_int_int.l0 k (A ++ m ++ B) (A.length : Int) ((A.length : Int) + m.length - 1)) (A ++ m.reverse ++ B)
  | N, [], A, B, _, _ => by
    refine Ev.round (f := fun _ => some (A ++ [] ++ B)) (fun k => by simp only [slices_Reverse_int_int.l0]; rw [if_neg (by simp; omega)]) (Ev.now _)
  | N, [x], A, B, _, _ => by
    refine Ev.round (f := fun _ => some (A ++ [x] ++ B)) (fun k => by simp only [slices_Reverse_int_int.l0]; rw [if_neg (by simp)]) (Ev.now _)
  | 0, x :: y :: m, A, B, h, _ => by simp at h
  | N + 1, x :: y :: m, A, B, h, hl => by
    obtain ⟨m', z, e⟩ : ∃ m' z, y :: m = m' ++ [z] := by
      rcases List.eq_nil_or_concat (y :: m) with h | ⟨m', z, h⟩
      · cases h
      · exact ⟨m', z, by simpa using h⟩
    rw [e] at h hl ⊢
    simp only [List.length_cons, List.length_append, List.length_nil] at h hl
    have ih := ev_Reverse_l N m' (A ++ [z]) (x :: B) (by omega) (by simp; omega)
    have e1 : A ++ x :: (m' ++ [z]) ++ B = A ++ x :: (m' ++ z :: B) := by simp
    have e2 : A ++ x :: (m' ++ [z]) ++ B = (A ++ x :: m') ++ z :: B := by simp
    have hj : ((A.length : Int) + ((x :: (m' ++ [z])).length : Int) - 1) = ((A ++ x :: m').length : Int) := by simp; omega
    rw [hj]
    have r1 : rd (A ++ x :: (m' ++ [z]) ++ B) (A.length : Int) = x := by rw [e1]; exact rd_mid _ _ _
    have r2 : rd (A ++ x :: (m' ++ [z]) ++ B) ((A ++ x :: m').length : Int) = z := by rw [e2]; exact rd_mid _ _ _
    have hlen : ((A ++ x :: (m' ++ [z]) ++ B).length : Int) = A.length + m'.length + 2 + B.length := by simp; omega
    have hlen2 : ((A ++ x :: m').length : Int) = A.length + m'.length + 1 := by simp; omega
    have hs : ((A ++ x :: (m' ++ [z]) ++ B).set (A.length : Int).toNat z).set ((A ++ x :: m').length : Int).toNat x = (A ++ [z]) ++ m' ++ (x :: B) := by
      rw [Int.toNat_natCast, Int.toNat_natCast, e1, List.set_append_right _ _ (Nat.le_refl _), Nat.sub_self, List.set_cons_zero, show A ++ z :: (m' ++ z :: B) = (A ++ z :: m') ++ z :: B from by simp, show (A ++ x :: m').length = (A ++ z :: m').length from by simp, List.set_append_right _ _ (Nat.le_refl _), Nat.sub_self, List.set_cons_zero]
      simp
    refine Ev.round (fun k => by simp only [slices_Reverse_int_int.l0]; rw [if_pos (show (A.length : Int) < ((A ++ x :: m').length : Int) by omega), r1, r2, hs, show wrap64 ((A.length : Int) + 1) = ((A ++ [z]).length : Int) by unfold wrap64; simp; omega, show wrap64 (((A ++ x :: m').length : Int) - 1) = ((A ++ [z]).length : Int) + m'.length - 1 by unfold wrap64; simp; omega]) ?_
    refine Ev.ite_pos (by omega) (Ev.ite_pos (by omega) (Ev.ite_pos (by omega) (Ev.ite_pos (by omega) ?_)))
    exact Ev.cast ih (by simp)
theorem ev_Reverse (l : List Int) (hl : l.length ≤ 100) : Ev (fun k => slices_Reverse_int_int.f k l) l.reverse := by
  have h := ev_Reverse_l l.length l [] [] (Nat.le_refl _) (by simpa using hl)
  unfold slices_Reverse_int_int.f
  rw [show wrap64 ((l.length : Int) - 1) = (([] : List Int).length : Int) + l.length - 1 by unfold wrap64; simp; omega]
  simpa using h
structure GoodWay (W F : List (List Int)) (n : Nat) (v : Int) (way : List Int) : Prop where
  pos : 0 < way.length
  first : rd way 0 = 0
  last : rd way ((way.length : Int) - 1) = v
  nd : way.Nodup
  inn : ∀ x ∈ way, 0 ≤ x ∧ x < (n : Int)
  step : ∀ i : Nat, 1 ≤ i → i < way.length → ∃ z, z > 0 ∧ spec_l13Room.f W F (rd way ((i : Int) - 1)) (rd way (i : Int)) = some z
theorem rd_app (l m : List Int) {i : Int} (h0 : 0 ≤ i) (h : i < (l.length : Int)) : rd (l ++ m) i = rd l i := by
  show (l ++ m).getD i.toNat 0 = l.getD i.toNat 0
  rw [List.getD_eq_getElem?_getD, List.getD_eq_getElem?_getD, List.getElem?_append_left (by omega)]
theorem GoodWay.snoc {W F : List (List Int)} {n : Nat} {u v : Int} {way : List Int} (h : GoodWay W F n u way) (hv : v ∉ way) (hin : 0 ≤ v ∧ v < (n : Int)) (hr : ∃ z, z > 0 ∧ spec_l13Room.f W F u v = some z) : GoodWay W F n v (way ++ [v]) := by
  have hp := h.pos
  have hm : rd (way ++ [v]) (way.length : Int) = v := rd_mid way [] v
  refine ⟨by simp, ?_, ?_, ?_, fun x hx => ?_, fun i h1 h2 => ?_⟩
  · rw [rd_app _ _ (by omega) (by omega)]
    exact h.first
  · rw [show (((way ++ [v]).length : Int) - 1) = (way.length : Int) by simp]
    exact hm
  · rw [List.nodup_append]
    refine ⟨h.nd, by simp, fun x hx y hy => ?_⟩
    rw [List.mem_singleton] at hy
    subst hy
    exact fun e => hv (e ▸ hx)
  · rcases List.mem_append.1 hx with hx | hx
    · exact h.inn x hx
    · rw [List.mem_singleton.1 hx]; exact hin
  · rw [List.length_append, List.length_singleton] at h2
    by_cases c : i < way.length
    · rw [rd_app _ _ (by omega) (by omega), rd_app _ _ (by omega) (by omega)]
      exact h.step i h1 c
    · obtain rfl : i = way.length := by omega
      rw [rd_app _ _ (by omega) (by omega), hm, h.last]
      exact hr
theorem way_chain {W F : List (List Int)} {n : Nat} (hn : n ≤ 8) {f s dis : List Int} (hI : Inv13 W F n f dis) (hR : Rel13 n f s) : ∀ (N : Nat) (pre : List Int) (v : Int) (post acc out : List Int), pre.length ≤ N → dis = pre ++ v :: post → acc.length + pre.length ≤ 20 → out.length + pre.length ≤ 20 →
    ∃ p : List Int, (p ≠ [] ∧ p.length ≤ pre.length + 1 ∧ GoodWay W F n v p.reverse ∧ ∀ x ∈ p, x ∈ pre ++ [v]) ∧ Ev (fun k => spec_l13Way.l0 k s v out) (p.reverse ++ out) ∧ Ev (fun k => impl_nextWay.l0 k f (acc ++ [v]) v) (acc ++ p).reverse
  | N, pre, v, post, acc, out, hN, hd, ha, ho => by
    have hv := hI.inn v (by rw [hd]; simp)
    have hfl := hI.len
    have hsl := hR.len
    by_cases c : v = 0
    · subst c
      refine ⟨[0], ⟨by simp, by simp, ⟨by simp, rfl, rfl, by simp, fun x hx => by rw [List.reverse_singleton, List.mem_singleton] at hx; subst hx; exact ⟨hv.1, hv.2.1⟩, fun i h1 h2 => by simp at h2; omega⟩, fun x hx => by simp at hx; simp [hx]⟩, ?_, ?_⟩
      · refine Ev.round (fun k => by simp only [spec_l13Way.l0]; rw [if_pos (by decide), Option.bind_some]) ?_
        refine Ev.ite_pos (by simp; omega) (Ev.ite_pos (by omega) (Ev.ite_pos (by omega) ?_))
        rw [hR.zero]
        exact Ev.round (f := fun _ => some ([0] ++ out)) (fun k => by simp only [spec_l13Way.l0]; rw [if_neg (by decide)]) (Ev.now _)
      · refine Ev.round (fun k => by simp only [impl_nextWay.l0]; rw [if_pos trivial]) ?_
        exact Ev.bind (ev_Reverse (acc ++ [0]) (by simp; omega)) (Ev.now _)
    · have hu := hI.up pre v post hd c
      obtain ⟨p1, p2, e⟩ := List.append_of_mem hu
      have hs : rd s v = rd f v := by rw [hR.each v (by omega) hv.2.1, if_neg (by omega)]
      cases N with
      | zero => rw [e] at hN; simp at hN
      | succ N =>
        have hpl : p1.length + 1 ≤ pre.length := by rw [e]; simp
        obtain ⟨p, ⟨h0, h00, hgw, hmem⟩, h1, h2⟩ := way_chain hn hI hR N p1 (rd f v) (p2 ++ v :: post) (acc ++ [v]) ([v] ++ out) (by omega) (by rw [hd, e]; simp) (by simp; omega) (by simp; omega)
        have hsub : ∀ x ∈ p, x ∈ pre := fun x hx => by
          have := hmem x hx
          rw [e]
          rcases List.mem_append.1 this with h | h
          · simp [h]
          · simp [List.mem_singleton.1 h]
        have hvn : v ∉ pre := fun hv' => by
          have hnd := hI.nd
          rw [hd, List.nodup_append] at hnd
          exact hnd.2.2 v hv' v (by simp) rfl
        refine ⟨v :: p, ⟨by simp, by rw [List.length_cons]; omega, ?_, fun x hx => ?_⟩, ?_, ?_⟩
        · rw [List.reverse_cons]
          exact hgw.snoc (fun h => hvn (hsub v (by simpa using h))) ⟨hv.1, hv.2.1⟩ (hI.room v (by rw [hd]; simp) c)
        · rcases List.mem_cons.1 hx with h | h
          · simp [h]
          · simp [hsub x h]
        · refine Ev.round (fun k => by simp only [spec_l13Way.l0]; rw [if_pos (show v ≥ 0 from hv.1), Option.bind_some, hs]) ?_
          refine Ev.ite_pos (by simp; omega) (Ev.ite_pos hv.1 (Ev.ite_pos (by omega) ?_))
          exact Ev.cast h1 (by simp)
        · refine Ev.round (fun k => by simp only [impl_nextWay.l0]; rw [if_neg c]) ?_
          refine Ev.ite_pos hv.1 (Ev.ite_pos (by omega) (Ev.ite_pos (by simp; omega) ?_))
          exact Ev.cast h2 (by simp)
theorem same_Way (W F : List (List Int)) (n : Nat) (hn : n ≤ 8) (h0 : 2 ≤ n) (hW : W.length = n) (hF : F.length = n) (hWx : ∀ x ∈ W, x.length = n) (hFx : ∀ x ∈ F, x.length = n) :
    ∃ (f way : List Int), Ev (fun k => impl_comeTo.f k W F) f ∧ f.length = n ∧ way.length ≤ 30 ∧ Ev (fun k => spec_l13Way.f k W F) way ∧ Ev (fun k => impl_nextWay.f k W F) way ∧ ((rd f (wrap64 ((W.length : Int) - 1)) < 0 ∧ way = []) ∨ (¬ rd f (wrap64 ((W.length : Int) - 1)) < 0 ∧ way ≠ [] ∧ GoodWay W F n ((n - 1 : Nat) : Int) way)) := by
  obtain ⟨f, s, dis, hI, hR, hs, hf⟩ := come_all W F n hn (by omega) hW hF hWx hFx
  have hfl := hI.len
  have hsl := hR.len
  have hw : wrap64 ((W.length : Int) - 1) = ((n - 1 : Nat) : Int) := by unfold wrap64; omega
  have he := hR.each ((n - 1 : Nat) : Int) (by omega) (by omega)
  by_cases c : rd f ((n - 1 : Nat) : Int) < 0
  · rw [if_pos c] at he
    refine ⟨f, [], hf, hfl, by simp, ?_, ?_, Or.inl ⟨by rw [hw]; exact c, rfl⟩⟩
    · unfold spec_l13Way.f
      rw [hw]
      exact Ev.bind hs (Ev.ite_pos (by omega) (Ev.ite_pos (by omega) (Ev.ite_pos he (Ev.now _))))
    · unfold impl_nextWay.f
      rw [hw]
      exact Ev.bind hf (Ev.ite_pos (by omega) (Ev.ite_pos (by omega) (Ev.ite_pos c (Ev.now _))))
  · rw [if_neg c] at he
    have hm := hI.all ((n - 1 : Nat) : Int) (by omega) (by omega) (by omega)
    obtain ⟨p1, p2, e⟩ := List.append_of_mem hm
    have hdl : dis.length ≤ 8 := by have := hI.many; omega
    have hpl : p1.length ≤ 8 := by rw [e] at hdl; simp at hdl; omega
    obtain ⟨p, ⟨hp0, hp1, hgw, _⟩, h1, h2⟩ := way_chain hn hI hR p1.length p1 ((n - 1 : Nat) : Int) p2 [] [] (Nat.le_refl _) e (by simp; omega) (by simp; omega)
    refine ⟨f, p.reverse, hf, hfl, by rw [List.length_reverse]; omega, ?_, ?_, Or.inr ⟨by rw [hw]; exact c, by simpa using hp0, hgw⟩⟩
    · unfold spec_l13Way.f
      rw [hw]
      exact Ev.bind hs (Ev.ite_pos (by omega) (Ev.ite_pos (by omega) (Ev.ite_neg (by omega) (by simpa using h1))))
    · unfold impl_nextWay.f
      rw [hw]
      exact Ev.bind hf (Ev.ite_pos (by omega) (Ev.ite_pos (by omega) (Ev.ite_neg c (by simpa using h2))))
theorem clone_all (W F : List (List Int)) (way : List Int) (R : List (List Int) × Int) (hn : F.length ≤ 8) (hx : ∀ x ∈ F, x.length ≤ 8) (h : Ev (fun k => impl_pushed.l1 k W F way F 2500 1) R) : ∀ (suf pre : List (List Int)), F = pre ++ suf → Ev (fun k => impl_pushed.l0 k W F way pre 2500 F (F.length : Int) (pre.length : Int)) R
  | [], pre, e => by
    have e' : pre = F := by rw [e]; simp
    refine Ev.round (fun k => by simp only [impl_pushed.l0]; rw [if_neg (by rw [e]; simp)]) ?_
    rw [e']
    exact h
  | x :: suf, pre, e => by
    have ih := clone_all W F way R hn hx h suf (pre ++ [x]) (by rw [e]; simp)
    have h1 : (pre.length : Int) < (F.length : Int) := by rw [e]; exact lt_mid _ _ _
    have h2 : rd_L1 F (pre.length : Int) = x := by rw [e]; exact rdL_mid _ _ _
    have h3 : wrap64 ((pre.length : Int) + 1) = ((pre ++ [x]).length : Int) := by rw [List.length_append, List.length_singleton]; unfold wrap64; omega
    have hxl := hx x (by rw [e]; simp)
    have hc : slices_Clone_int_int.f x = some x := if_pos (by omega)
    refine Ev.round (fun k => by simp only [impl_pushed.l0]; rw [if_pos h1, if_pos (by omega), if_pos h1, h2, hc, Option.bind_some, h3]) ?_
    exact Ev.ite_pos (by omega) ih
theorem room_at (W F : List (List Int)) (n : Nat) (hW : W.length = n) (hF : F.length = n) (hWx : ∀ x ∈ W, x.length = n ∧ ∀ v ∈ x, 0 ≤ v ∧ v ≤ 50) (hFx : ∀ x ∈ F, x.length = n ∧ ∀ v ∈ x, 0 ≤ v ∧ v ≤ 50) (a b : Int) (ha : 0 ≤ a ∧ a < (n : Int)) (hb : 0 ≤ b ∧ b < (n : Int)) : ∃ z, z ≤ 100 ∧ spec_l13Room.f W F a b = some z ∧ impl_room.f W F a b = some z := by
  have m1 := hWx _ (rdL_mem (l := W) ha.1 (by omega))
  have m2 := hFx _ (rdL_mem (l := F) ha.1 (by omega))
  have m3 := hFx _ (rdL_mem (l := F) hb.1 (by omega))
  have v1 := m1.2 (rd (rd_L1 W a) b) (by unfold rd; exact getD_mem _ (by omega))
  have v2 := m2.2 (rd (rd_L1 F a) b) (by unfold rd; exact getD_mem _ (by omega))
  have v3 := m3.2 (rd (rd_L1 F b) a) (by unfold rd; exact getD_mem _ (by omega))
  have h1 := m1.1
  have h2 := m2.1
  have h3 := m3.1
  refine ⟨wrap64 ((wrap64 ((rd (rd_L1 W a) b) - (rd (rd_L1 F a) b))) + (rd (rd_L1 F b) a)), by unfold wrap64; omega, ?_, ?_⟩
  · unfold spec_l13Room.f
    rw [if_pos ha.1, if_pos (by omega), if_pos hb.1, if_pos (by omega), if_pos (by omega), if_pos (by omega), if_pos (by omega), if_pos (by omega)]
  · unfold impl_room.f
    rw [if_pos ha.1, if_pos (by omega), if_pos hb.1, if_pos (by omega), if_pos (by omega), if_pos (by omega), if_pos (by omega), if_pos (by omega)]
/-- All halls of a way are halls of the net. -/
def inN (n : Nat) (way : List Int) : Prop := ∀ v ∈ way, 0 ≤ v ∧ v < (n : Int)
theorem inN_rd {n : Nat} {way : List Int} (h : inN n way) {i : Int} (h0 : 0 ≤ i) (h1 : i < (way.length : Int)) : 0 ≤ rd way i ∧ rd way i < (n : Int) := h _ (by unfold rd; exact getD_mem _ (by omega))
theorem rooms_go (W F : List (List Int)) (way : List Int) (n : Nat) (hW : W.length = n) (hF : F.length = n) (hWx : ∀ x ∈ W, x.length = n ∧ ∀ v ∈ x, 0 ≤ v ∧ v ≤ 50) (hFx : ∀ x ∈ F, x.length = n ∧ ∀ v ∈ x, 0 ≤ v ∧ v ≤ 50) (hw : inN n way) (hl : way.length ≤ 4611686018427387904) : ∀ (m i : Nat) (b : Int), 1 ≤ i → i + m = way.length →
    ∃ mu, spec_l13Push.by_ W F way m i b = some mu ∧ ∀ R, Ev (fun k => impl_pushed.l2 k way F mu 1) R → Ev (fun k => impl_pushed.l1 k W F way F b (i : Int)) R
  | 0, i, b, h1, hm => by
    refine ⟨b, rfl, fun R h => Ev.round (fun k => by simp only [impl_pushed.l1]; rw [if_neg (by omega)]) h⟩
  | m + 1, i, b, h1, hm => by
    obtain ⟨z, hz, r1, r2⟩ := room_at W F n hW hF hWx hFx (rd way ((i : Int) - 1)) (rd way (i : Int)) (inN_rd hw (by omega) (by omega)) (inN_rd hw (by omega) (by omega))
    obtain ⟨mu, e1, e2⟩ := rooms_go W F way n hW hF hWx hFx hw hl m (i + 1) (if z < b then z else b) (by omega) (by omega)
    have hw1 : wrap64 ((i : Int) - 1) = (i : Int) - 1 := by unfold wrap64; omega
    have hw2 : wrap64 ((i : Int) + 1) = ((i + 1 : Nat) : Int) := by unfold wrap64; omega
    refine ⟨mu, by rw [spec_l13Push.by_, r1, Option.bind_some]; exact e1, fun R h => ?_⟩
    refine Ev.round (fun k => by simp only [impl_pushed.l1]; rw [if_pos (by omega), hw1, if_pos (by omega), if_pos (by omega), if_pos (by omega), r2, Option.bind_some, hw2]) ?_
    exact e2 R h
theorem rooms_all (W F : List (List Int)) (way : List Int) (n : Nat) (hW : W.length = n) (hF : F.length = n) (hWx : ∀ x ∈ W, x.length = n ∧ ∀ v ∈ x, 0 ≤ v ∧ v ≤ 50) (hFx : ∀ x ∈ F, x.length = n ∧ ∀ v ∈ x, 0 ≤ v ∧ v ≤ 50) (hw : inN n way) (hl : way.length ≤ 4611686018427387904) (h2 : 2 ≤ way.length) :
    ∃ mu, spec_l13Push.by_ W F way (way.length - 1) 1 100 = some mu ∧ ∀ R, Ev (fun k => impl_pushed.l2 k way F mu 1) R → Ev (fun k => impl_pushed.l1 k W F way F 2500 1) R := by
  obtain ⟨z, hz, r1, r2⟩ := room_at W F n hW hF hWx hFx (rd way 0) (rd way 1) (inN_rd hw (by omega) (by omega)) (inN_rd hw (by omega) (by omega))
  obtain ⟨mu, e1, e2⟩ := rooms_go W F way n hW hF hWx hFx hw hl (way.length - 2) 2 z (by omega) (by omega)
  refine ⟨mu, ?_, fun R h => ?_⟩
  · rw [show way.length - 1 = (way.length - 2) + 1 by omega, spec_l13Push.by_]
    have e : (((1 : Nat) : Int) - 1) = 0 := rfl
    rw [e, show ((1 : Nat) : Int) = 1 from rfl, r1, Option.bind_some, show (if z < 100 then z else 100) = z by split <;> omega]
    exact e1
  · refine Ev.round (fun k => by simp only [impl_pushed.l1]; rw [if_pos (by omega), show wrap64 ((1 : Int) - 1) = 0 by unfold wrap64; omega, if_pos (by omega), if_pos (by omega), if_pos (by omega), r2, Option.bind_some, show mn 2500 z = z by unfold mn; split <;> omega, show wrap64 ((1 : Int) + 1) = 2 by unfold wrap64; omega]) ?_
    exact e2 R h
theorem set_len {F : List (List Int)} {n : Nat} (h : ∀ x ∈ F, x.length = n) {i : Nat} {y : List Int} (hy : y.length = n) : ∀ x ∈ F.set i y, x.length = n := by
  intro x hx
  rcases List.mem_or_eq_of_mem_set hx with h' | h'
  · exact h x h'
  · rw [h']; exact hy
theorem puts_go (way : List Int) (n : Nat) (mu : Int) (hw : inN n way) (hl : way.length ≤ 4611686018427387904) : ∀ (m i : Nat) (F : List (List Int)), 1 ≤ i → i + m = way.length → F.length = n → (∀ x ∈ F, x.length = n) →
    ∃ F', (F'.length = n ∧ ∀ x ∈ F', x.length = n) ∧ spec_l13Push.put_ way mu m i F = some F' ∧ Ev (fun k => impl_pushed.l2 k way F mu (i : Int)) (F', mu)
  | 0, i, F, h1, hm, hF, hx => by
    refine ⟨F, ⟨hF, hx⟩, rfl, Ev.round (f := fun _ => some (F, mu)) (fun k => by simp only [impl_pushed.l2]; rw [if_neg (by omega)]) (Ev.now _)⟩
  | m + 1, i, F, h1, hm, hF, hx => by
    have hb := inN_rd hw (show (0 : Int) ≤ (i : Int) by omega) (by omega)
    have ha := inN_rd hw (show (0 : Int) ≤ (i : Int) - 1 by omega) (by omega)
    have hw1 : wrap64 ((i : Int) - 1) = (i : Int) - 1 := by unfold wrap64; omega
    have hw2 : wrap64 ((i : Int) + 1) = ((i + 1 : Nat) : Int) := by unfold wrap64; omega
    generalize hB : rd way (i : Int) = b at hb
    generalize hA : rd way ((i : Int) - 1) = a at ha
    have l1 := hx _ (rdL_mem hb.1 (by omega))
    have hback : mn mu (rd (rd_L1 F b) a) = spec_l13Push.back F a b mu := by
      unfold mn spec_l13Push.back
      split <;> split <;> omega
    have hone : F.set b.toNat ((rd_L1 F b).set a.toNat (wrap64 (rd (rd_L1 F b) a - mn mu (rd (rd_L1 F b) a)))) = spec_l13Push.one F a b mu := by rw [hback]; rfl
    have ol : (spec_l13Push.one F a b mu).length = n := by unfold spec_l13Push.one; rw [List.length_set]; exact hF
    have ox : ∀ x ∈ spec_l13Push.one F a b mu, x.length = n := by unfold spec_l13Push.one; exact set_len hx (by rw [List.length_set]; exact l1)
    have l2 := ox _ (rdL_mem (l := spec_l13Push.one F a b mu) ha.1 (by omega))
    have tl : (spec_l13Push.two F a b mu).length = n := by unfold spec_l13Push.two; rw [List.length_set]; exact ol
    have tx : ∀ x ∈ spec_l13Push.two F a b mu, x.length = n := by unfold spec_l13Push.two; exact set_len ox (by rw [List.length_set]; exact l2)
    obtain ⟨F', s1, e1, e2⟩ := puts_go way n mu hw hl m (i + 1) (spec_l13Push.two F a b mu) (by omega) (by omega) tl tx
    refine ⟨F', s1, ?_, ?_⟩
    · rw [spec_l13Push.put_, hB, hA, if_pos (by refine ⟨⟨⟨hb.1, by omega⟩, ⟨ha.1, by omega⟩⟩, ⟨by omega, by omega⟩⟩)]
      exact e1
    · refine Ev.round (fun k => by simp only [impl_pushed.l2]; rw [if_pos (by omega), hw1, if_pos (by omega), if_pos (by omega), if_pos (by omega), hB, hA, if_pos hb.1, if_pos (by omega), if_pos ha.1, if_pos (by omega), Option.bind_some, hone, hback, if_pos (by omega), if_pos (by omega), hw2]) ?_
      exact e2
theorem same_pushed (W F : List (List Int)) (way : List Int) (n : Nat) (hn : n ≤ 8) (hW : W.length = n) (hF : F.length = n) (hWx : ∀ x ∈ W, x.length = n ∧ ∀ v ∈ x, 0 ≤ v ∧ v ≤ 50) (hFx : ∀ x ∈ F, x.length = n ∧ ∀ v ∈ x, 0 ≤ v ∧ v ≤ 50) (hw : inN n way) (hl : way.length ≤ 4611686018427387904) (h2 : 2 ≤ way.length) :
    ∃ F' mu, (F'.length = n ∧ ∀ x ∈ F', x.length = n) ∧ spec_l13Push.g W F way = some (mu, F') ∧ Ev (fun k => impl_pushed.f k W F way) (F', mu) := by
  obtain ⟨mu, e1, e2⟩ := rooms_all W F way n hW hF hWx hFx hw hl h2
  obtain ⟨F', s, e3, e4⟩ := puts_go way n mu hw hl (way.length - 1) 1 F (by omega) (by omega) hF (fun x hx => (hFx x hx).1)
  refine ⟨F', mu, s, ?_, ?_⟩
  · unfold spec_l13Push.g
    rw [e1, Option.bind_some, e3, Option.bind_some]
  · unfold impl_pushed.f
    exact clone_all W F way _ (by omega) (fun x hx => by have := (hFx x hx).1; omega) (e2 _ e4) F [] rfl
def get (F : List (List Int)) (a b : Int) : Int := rd (rd_L1 F a) b
def upd (F : List (List Int)) (a b v : Int) : List (List Int) := F.set a.toNat ((rd_L1 F a).set b.toNat v)
theorem rdLset_eq (l : List (List Int)) (v : List Int) {p : Int} (h0 : 0 ≤ p) (h : p < (l.length : Int)) : rd_L1 (l.set p.toNat v) p = v := by
  show (l.set p.toNat v).getD p.toNat [] = v
  rw [List.getD_eq_getElem?_getD, List.getElem?_set_self (by omega)]
  rfl
theorem rdLset_ne (l : List (List Int)) (v : List Int) {p q : Int} (h0 : 0 ≤ p) (h1 : 0 ≤ q) (h : p ≠ q) : rd_L1 (l.set p.toNat v) q = rd_L1 l q := by
  show (l.set p.toNat v).getD q.toNat [] = l.getD q.toNat []
  rw [List.getD_eq_getElem?_getD, List.getD_eq_getElem?_getD, List.getElem?_set_ne (by omega)]
/-- n rows of n. -/
structure Sq (n : Nat) (F : List (List Int)) : Prop where
  len : F.length = n
  row : ∀ x ∈ F, x.length = n
theorem Sq.at {n : Nat} {F : List (List Int)} (h : Sq n F) {a : Int} (h0 : 0 ≤ a) (h1 : a < (n : Int)) : (rd_L1 F a).length = n := h.row _ (rdL_mem h0 (by have := h.len; omega))
theorem Sq.upd {n : Nat} {F : List (List Int)} (h : Sq n F) {a b v : Int} (h0 : 0 ≤ a) (h1 : a < (n : Int)) : Sq n (upd F a b v) := by
  refine ⟨by unfold Pure.upd; rw [List.length_set]; exact h.len, ?_⟩
  unfold Pure.upd
  exact set_len h.row (by rw [List.length_set]; exact h.at h0 h1)
theorem get_upd_eq {n : Nat} {F : List (List Int)} (h : Sq n F) {a b v : Int} (ha : 0 ≤ a ∧ a < (n : Int)) (hb : 0 ≤ b ∧ b < (n : Int)) : get (upd F a b v) a b = v := by
  have := h.len
  have := h.at ha.1 ha.2
  unfold get upd
  rw [rdLset_eq _ _ ha.1 (by omega), rdset_eq _ _ hb.1 (by omega)]
theorem get_upd_ne {n : Nat} {F : List (List Int)} (h : Sq n F) {a b v x y : Int} (ha : 0 ≤ a ∧ a < (n : Int)) (hb : 0 ≤ b ∧ b < (n : Int)) (hx : 0 ≤ x) (hy : 0 ≤ y) (hne : ¬ (x = a ∧ y = b)) : get (upd F a b v) x y = get F x y := by
  have := h.len
  unfold get upd
  by_cases c : a = x
  · subst c
    rw [rdLset_eq _ _ ha.1 (by omega), rdset_ne _ _ hb.1 hy (fun e => hne ⟨rfl, e.symm⟩)]
  · rw [rdLset_ne _ _ ha.1 hx c]
/-- A flow through W: nowhere below 0, nowhere above the width. -/
structure GoodF (W : List (List Int)) (n : Nat) (F : List (List Int)) : Prop where
  sq : Sq n F
  bd : ∀ a b : Int, 0 ≤ a → a < (n : Int) → 0 ≤ b → b < (n : Int) → 0 ≤ get F a b ∧ get F a b ≤ get W a b
theorem rd_of_mem {l : List Int} {v : Int} (h : v ∈ l) : ∃ i : Int, 0 ≤ i ∧ i < (l.length : Int) ∧ rd l i = v := by
  obtain ⟨i, hi, e⟩ := List.mem_iff_getElem.1 h
  refine ⟨(i : Int), by omega, by omega, ?_⟩
  show l.getD (i : Int).toNat 0 = v
  rw [Int.toNat_natCast, List.getD_eq_getElem?_getD, List.getElem?_eq_getElem hi, e]
  rfl
theorem rdL_of_mem {l : List (List Int)} {v : List Int} (h : v ∈ l) : ∃ i : Int, 0 ≤ i ∧ i < (l.length : Int) ∧ rd_L1 l i = v := by
  obtain ⟨i, hi, e⟩ := List.mem_iff_getElem.1 h
  refine ⟨(i : Int), by omega, by omega, ?_⟩
  show l.getD (i : Int).toNat [] = v
  rw [Int.toNat_natCast, List.getD_eq_getElem?_getD, List.getElem?_eq_getElem hi, e]
  rfl
theorem GoodF.mem {W F : List (List Int)} {n : Nat} (h : GoodF W n F) (hW : ∀ a b : Int, 0 ≤ a → a < (n : Int) → 0 ≤ b → b < (n : Int) → get W a b ≤ 50) : ∀ x ∈ F, x.length = n ∧ ∀ v ∈ x, 0 ≤ v ∧ v ≤ 50 := by
  intro x hx
  have hl := h.sq.row x hx
  refine ⟨hl, fun v hv => ?_⟩
  obtain ⟨a, a0, a1, rfl⟩ := rdL_of_mem hx
  obtain ⟨b, b0, b1, rfl⟩ := rd_of_mem hv
  have hF := h.sq.len
  have h1 := h.bd a b a0 (by omega) b0 (by omega)
  have h2 := hW a b a0 (by omega) b0 (by omega)
  exact ⟨h1.1, Int.le_trans h1.2 h2⟩
theorem mem_get {W : List (List Int)} {n : Nat} (hl : W.length = n) (h : ∀ x ∈ W, x.length = n ∧ ∀ v ∈ x, 0 ≤ v ∧ v ≤ 50) : ∀ a b : Int, 0 ≤ a → a < (n : Int) → 0 ≤ b → b < (n : Int) → 0 ≤ get W a b ∧ get W a b ≤ 50 := by
  intro a b a0 a1 b0 b1
  have h1 := h _ (rdL_mem (l := W) a0 (by omega))
  exact h1.2 _ (by unfold get rd; exact getD_mem _ (by have := h1.1; omega))
/-- A step of a way, pushed: what it leaves. -/
theorem two_get {W F : List (List Int)} {n : Nat} (hF : GoodF W n F) (hW : ∀ a b : Int, 0 ≤ a → a < (n : Int) → 0 ≤ b → b < (n : Int) → 0 ≤ get W a b ∧ get W a b ≤ 50) {a b mu : Int} (ha : 0 ≤ a ∧ a < (n : Int)) (hb : 0 ≤ b ∧ b < (n : Int)) (hab : a ≠ b) (h0 : 0 ≤ mu) (hm : mu ≤ get W a b - get F a b + get F b a) :
    GoodF W n (spec_l13Push.two F a b mu) ∧ ∃ k, get (spec_l13Push.two F a b mu) b a = get F b a - k ∧ get (spec_l13Push.two F a b mu) a b = get F a b + mu - k ∧ ∀ x y : Int, 0 ≤ x → 0 ≤ y → ¬ (x = b ∧ y = a) → ¬ (x = a ∧ y = b) → get (spec_l13Push.two F a b mu) x y = get F x y := by
  have fab := hF.bd a b ha.1 ha.2 hb.1 hb.2
  have fba := hF.bd b a hb.1 hb.2 ha.1 ha.2
  have wab := hW a b ha.1 ha.2 hb.1 hb.2
  have wba := hW b a hb.1 hb.2 ha.1 ha.2
  obtain ⟨k, hk, k0, k1, k2, k3⟩ : ∃ k, spec_l13Push.back F a b mu = k ∧ 0 ≤ k ∧ k ≤ mu ∧ k ≤ get F b a ∧ (k = mu ∨ k = get F b a) := by
    refine ⟨_, rfl, ?_⟩
    unfold spec_l13Push.back
    unfold get at fba ⊢
    split <;> omega
  have hone : spec_l13Push.one F a b mu = upd F b a (get F b a - k) := by
    unfold spec_l13Push.one upd
    rw [hk, show wrap64 (rd (rd_L1 F b) a - k) = get F b a - k by show wrap64 (get F b a - k) = _; unfold wrap64; omega]
  have so := hF.sq.upd (b := a) (v := get F b a - k) hb.1 hb.2
  have g1 : get (upd F b a (get F b a - k)) a b = get F a b := get_upd_ne hF.sq hb ha ha.1 hb.1 (fun h => hab h.1)
  have htwo : spec_l13Push.two F a b mu = upd (upd F b a (get F b a - k)) a b (get F a b + mu - k) := by
    unfold spec_l13Push.two
    rw [hone]
    show upd (upd F b a (get F b a - k)) a b (wrap64 (get (upd F b a (get F b a - k)) a b + wrap64 (mu - spec_l13Push.back F a b mu))) = _
    rw [g1, hk, show wrap64 (get F a b + wrap64 (mu - k)) = get F a b + mu - k by unfold wrap64; omega]
  have e1 : get (spec_l13Push.two F a b mu) b a = get F b a - k := by
    rw [htwo, get_upd_ne so ha hb hb.1 ha.1 (fun h => hab h.1.symm), get_upd_eq hF.sq hb ha]
  have e2 : get (spec_l13Push.two F a b mu) a b = get F a b + mu - k := by
    rw [htwo, get_upd_eq so ha hb]
  have e3 : ∀ x y : Int, 0 ≤ x → 0 ≤ y → ¬ (x = b ∧ y = a) → ¬ (x = a ∧ y = b) → get (spec_l13Push.two F a b mu) x y = get F x y := by
    intro x y hx hy h1 h2
    rw [htwo, get_upd_ne so ha hb hx hy h2, get_upd_ne hF.sq hb ha hx hy h1]
  refine ⟨⟨by rw [htwo]; exact so.upd ha.1 ha.2, fun x y x0 x1 y0 y1 => ?_⟩, k, e1, e2, e3⟩
  by_cases c1 : x = b ∧ y = a
  · rw [c1.1, c1.2, e1]; omega
  · by_cases c2 : x = a ∧ y = b
    · rw [c2.1, c2.2, e2]; omega
    · rw [e3 x y x0 y0 c1 c2]
      exact hF.bd x y x0 x1 y0 y1
/-- The flow out of hall 0. -/
def valN (F : List (List Int)) : Nat → Int
  | 0 => 0
  | m + 1 => valN F m + (get F 0 (m : Int) - get F (m : Int) 0)
theorem valN_le {W F : List (List Int)} {n : Nat} (hF : GoodF W n F) (hW : ∀ a b : Int, 0 ≤ a → a < (n : Int) → 0 ≤ b → b < (n : Int) → 0 ≤ get W a b ∧ get W a b ≤ 50) (hn : 0 < n) : ∀ m : Nat, m ≤ n → valN F m ≤ 50 * (m : Int)
  | 0, _ => by simp [valN]
  | m + 1, h => by
    have ih := valN_le hF hW hn m (by omega)
    have h1 := hF.bd 0 (m : Int) (by omega) (by omega) (by omega) (by omega)
    have h2 := hF.bd (m : Int) 0 (by omega) (by omega) (by omega) (by omega)
    have h3 := hW 0 (m : Int) (by omega) (by omega) (by omega) (by omega)
    rw [valN]
    omega
theorem valN_up {F F' : List (List Int)} {c : Nat} {mu : Int} (h1 : ∀ y : Nat, y ≠ c → get F' 0 (y : Int) - get F' (y : Int) 0 = get F 0 (y : Int) - get F (y : Int) 0) (h2 : get F' 0 (c : Int) - get F' (c : Int) 0 = get F 0 (c : Int) - get F (c : Int) 0 + mu) : ∀ m : Nat, valN F' m = valN F m + if c < m then mu else 0
  | 0 => by simp [valN]
  | m + 1 => by
    have ih := valN_up h1 h2 m
    rw [valN, valN, ih]
    by_cases e : m = c
    · subst e
      rw [if_neg (by omega), if_pos (by omega)]
      omega
    · have := h1 m e
      by_cases d : c < m
      · rw [if_pos d, if_pos (by omega)]; omega
      · rw [if_neg d, if_neg (by omega)]; omega
theorem room_get {W F : List (List Int)} {n : Nat} (hWs : Sq n W) (hF : GoodF W n F) (hW : ∀ a b : Int, 0 ≤ a → a < (n : Int) → 0 ≤ b → b < (n : Int) → 0 ≤ get W a b ∧ get W a b ≤ 50) {a b z : Int} (ha : 0 ≤ a ∧ a < (n : Int)) (hb : 0 ≤ b ∧ b < (n : Int)) (h : spec_l13Room.f W F a b = some z) : z = get W a b - get F a b + get F b a := by
  have fab := hF.bd a b ha.1 ha.2 hb.1 hb.2
  have fba := hF.bd b a hb.1 hb.2 ha.1 ha.2
  have wab := hW a b ha.1 ha.2 hb.1 hb.2
  have wba := hW b a hb.1 hb.2 ha.1 ha.2
  have l1 := hWs.at ha.1 ha.2
  have l2 := hF.sq.at ha.1 ha.2
  have l3 := hF.sq.at hb.1 hb.2
  have l4 := hWs.len
  have l5 := hF.sq.len
  unfold spec_l13Room.f at h
  rw [if_pos ha.1, if_pos (by omega), if_pos hb.1, if_pos (by omega), if_pos (by omega), if_pos (by omega), if_pos (by omega), if_pos (by omega)] at h
  have h := Option.some.inj h
  rw [← h]
  show wrap64 (wrap64 (get W a b - get F a b) + get F b a) = _
  unfold wrap64
  omega
theorem by_le {W F : List (List Int)} {way : List Int} : ∀ (m i : Nat) (b mu : Int), spec_l13Push.by_ W F way m i b = some mu → mu ≤ b ∧ (∀ j, i ≤ j → j < i + m → ∃ z, spec_l13Room.f W F (rd way ((j : Int) - 1)) (rd way (j : Int)) = some z ∧ mu ≤ z) ∧ (1 ≤ b → (∀ j, i ≤ j → j < i + m → ∃ z, z > 0 ∧ spec_l13Room.f W F (rd way ((j : Int) - 1)) (rd way (j : Int)) = some z) → 1 ≤ mu)
  | 0, i, b, mu, h => by
    rw [spec_l13Push.by_] at h
    obtain rfl := Option.some.inj h
    exact ⟨Int.le_refl _, fun j h1 h2 => by omega, fun h _ => h⟩
  | m + 1, i, b, mu, h => by
    rw [spec_l13Push.by_] at h
    obtain ⟨r, hr, h⟩ := Option.bind_eq_some_iff.mp h
    obtain ⟨h1, h2, h3⟩ := by_le m (i + 1) _ mu h
    refine ⟨?_, fun j j1 j2 => ?_, fun hb hz => ?_⟩
    · split at h1 <;> omega
    · by_cases c : j = i
      · subst c
        refine ⟨r, hr, ?_⟩
        split at h1 <;> omega
      · exact h2 j (by omega) (by omega)
    · obtain ⟨z, z0, hz0⟩ := hz i (Nat.le_refl _) (by omega)
      rw [hr] at hz0
      have := Option.some.inj hz0
      refine h3 (by split <;> omega) (fun j j1 j2 => hz j (by omega) (by omega))
theorem take_mem {way : List Int} {i : Nat} (h : i < way.length) : rd way (i : Int) ∈ way.take (i + 1) ∧ ∀ x, x ∈ way.take i → x ∈ way.take (i + 1) := by
  have e : way.take (i + 1) = way.take i ++ [way[i]] := by rw [List.take_add_one, List.getElem?_eq_getElem h]; rfl
  refine ⟨?_, fun x hx => by rw [e]; exact List.mem_append_left _ hx⟩
  rw [e, show rd way (i : Int) = way[i] by show way.getD (i : Int).toNat 0 = _; rw [Int.toNat_natCast, List.getD_eq_getElem?_getD, List.getElem?_eq_getElem h]; rfl]
  exact List.mem_append_right _ (List.mem_singleton.2 rfl)
theorem not_take {way : List Int} (hnd : way.Nodup) {i : Nat} (h : i < way.length) : rd way (i : Int) ∉ way.take i := by
  intro hm
  have e : way = way.take i ++ way.drop i := by simp
  rw [e, List.nodup_append] at hnd
  refine hnd.2.2 _ hm (rd way (i : Int)) ?_ rfl
  rw [show rd way (i : Int) = way[i] by show way.getD (i : Int).toNat 0 = _; rw [Int.toNat_natCast, List.getD_eq_getElem?_getD, List.getElem?_eq_getElem h]; rfl]
  rw [List.drop_eq_getElem_cons h]
  exact List.mem_cons_self
theorem puts_good {W F0 : List (List Int)} {n : Nat} {way : List Int} {mu : Int} (hW : ∀ a b : Int, 0 ≤ a → a < (n : Int) → 0 ≤ b → b < (n : Int) → 0 ≤ get W a b ∧ get W a b ≤ 50) (hw : inN n way) (hnd : way.Nodup) (h0 : 0 ≤ mu)
    (hr : ∀ i : Nat, 1 ≤ i → i < way.length → mu ≤ get W (rd way ((i : Int) - 1)) (rd way (i : Int)) - get F0 (rd way ((i : Int) - 1)) (rd way (i : Int)) + get F0 (rd way (i : Int)) (rd way ((i : Int) - 1))) : ∀ (m i : Nat) (F F' : List (List Int)), 1 ≤ i → i + m = way.length → GoodF W n F → (∀ x y : Int, 0 ≤ x → 0 ≤ y → (x ∉ way.take i ∨ y ∉ way.take i) → get F x y = get F0 x y) → spec_l13Push.put_ way mu m i F = some F' →
    GoodF W n F' ∧ (2 ≤ i → rd way 0 = 0 → ∀ y : Nat, get F' 0 (y : Int) - get F' (y : Int) 0 = get F 0 (y : Int) - get F (y : Int) 0)
  | 0, i, F, F', h1, hm, hF, hE, h => by
    rw [spec_l13Push.put_] at h
    obtain rfl := Option.some.inj h
    exact ⟨hF, fun _ _ _ => rfl⟩
  | m + 1, i, F, F', h1, hm, hF, hE, h => by
    have hb := inN_rd hw (show (0 : Int) ≤ (i : Int) by omega) (by omega)
    have ha := inN_rd hw (show (0 : Int) ≤ (i : Int) - 1 by omega) (by omega)
    have hbt := not_take hnd (show i < way.length by omega)
    have ham : rd way ((i : Int) - 1) ∈ way.take i := by
      have := (take_mem (way := way) (i := i - 1) (by omega)).1
      rw [show i - 1 + 1 = i by omega, show ((i - 1 : Nat) : Int) = (i : Int) - 1 by omega] at this
      exact this
    have hab : rd way ((i : Int) - 1) ≠ rd way (i : Int) := fun e => hbt (e ▸ ham)
    have hm0 := hr i h1 (by omega)
    rw [← hE _ _ ha.1 hb.1 (.inr hbt), ← hE _ _ hb.1 ha.1 (.inl hbt)] at hm0
    obtain ⟨g1, k, g2, g3, g4⟩ := two_get hF hW ha hb hab h0 hm0
    have htk := take_mem (way := way) (i := i) (by omega)
    rw [spec_l13Push.put_] at h
    split at h
    case isFalse => cases h
    case isTrue =>
    obtain ⟨r1, r2⟩ := puts_good hW hw hnd h0 hr m (i + 1) _ F' (by omega) (by omega) g1 (fun x y hx hy hxy => by
      have hxy' : x ∉ way.take i ∨ y ∉ way.take i := hxy.imp (fun h h' => h (htk.2 x h')) (fun h h' => h (htk.2 y h'))
      rw [g4 x y hx hy ?_ ?_]
      · exact hE x y hx hy hxy'
      · rintro ⟨rfl, rfl⟩
        rcases hxy with h | h
        · exact h htk.1
        · exact h (htk.2 _ ham)
      · rintro ⟨rfl, rfl⟩
        rcases hxy with h | h
        · exact h (htk.2 _ ham)
        · exact h htk.1) h
    refine ⟨r1, fun h2 hz y => ?_⟩
    rw [r2 (by omega) hz y]
    have z1 : rd way (i : Int) ≠ 0 := fun e => hbt (by
      have := (take_mem (way := way) (i := 0) (by omega)).1
      rw [e, ← hz]
      exact (List.take_subset_take_left way (show 0 + 1 ≤ i by omega)) this)
    have z2 : rd way ((i : Int) - 1) ≠ 0 := fun e => by
      have hnt := not_take hnd (show i - 1 < way.length by omega)
      rw [show ((i - 1 : Nat) : Int) = (i : Int) - 1 by omega, e, ← hz] at hnt
      exact hnt ((List.take_subset_take_left way (show 0 + 1 ≤ i - 1 by omega)) (take_mem (way := way) (i := 0) (by omega)).1)
    rw [g4 0 (y : Int) (by omega) (by omega) (fun h => z1 h.1.symm) (fun h => z2 h.1.symm), g4 (y : Int) 0 (by omega) (by omega) (fun h => z2 h.2.symm) (fun h => z1 h.2.symm)]
theorem push_good {W F F' : List (List Int)} {n : Nat} {way : List Int} {mu v : Int} (hWs : Sq n W) (hW : ∀ a b : Int, 0 ≤ a → a < (n : Int) → 0 ≤ b → b < (n : Int) → 0 ≤ get W a b ∧ get W a b ≤ 50) (hF : GoodF W n F) (hg : GoodWay W F n v way) (h2 : 2 ≤ way.length) (hp : spec_l13Push.g W F way = some (mu, F')) : GoodF W n F' ∧ valN F n + 1 ≤ valN F' n := by
  unfold spec_l13Push.g at hp
  obtain ⟨mu', hmu, hp⟩ := Option.bind_eq_some_iff.mp hp
  obtain ⟨F2, hput, hp⟩ := Option.bind_eq_some_iff.mp hp
  simp only [Option.some.injEq, Prod.mk.injEq] at hp
  obtain ⟨rfl, rfl⟩ := hp
  obtain ⟨b1, b2, b3⟩ := by_le _ _ _ _ hmu
  have hmu1 : 1 ≤ mu' := b3 (by omega) (fun j h1 h2 => hg.step j h1 (by omega))
  have hw : inN n way := hg.inn
  have hr : ∀ i : Nat, 1 ≤ i → i < way.length → mu' ≤ get W (rd way ((i : Int) - 1)) (rd way (i : Int)) - get F (rd way ((i : Int) - 1)) (rd way (i : Int)) + get F (rd way (i : Int)) (rd way ((i : Int) - 1)) := by
    intro i i1 i2
    obtain ⟨z, hz, hle⟩ := b2 i i1 (by omega)
    have := room_get hWs hF hW (inN_rd hw (show (0 : Int) ≤ (i : Int) - 1 by omega) (by omega)) (inN_rd hw (show (0 : Int) ≤ (i : Int) by omega) (by omega)) hz
    omega
  have hb := inN_rd hw (show (0 : Int) ≤ ((1 : Nat) : Int) by omega) (by omega)
  have ha := inN_rd hw (show (0 : Int) ≤ ((1 : Nat) : Int) - 1 by omega) (by omega)
  have e0 : rd way (((1 : Nat) : Int) - 1) = 0 := hg.first
  have hr1 := hr 1 (Nat.le_refl _) (by omega)
  rw [e0] at hr1 ha
  have hbt := not_take hg.nd (show 1 < way.length by omega)
  have h0m : (0 : Int) ∈ way.take 1 := by
    have := (take_mem (way := way) (i := 0) (by omega)).1
    rw [show ((0 : Nat) : Int) = 0 from rfl, hg.first] at this
    exact this
  have hne : (0 : Int) ≠ rd way ((1 : Nat) : Int) := fun e => hbt (e ▸ h0m)
  obtain ⟨g1, k, g2, g3, g4⟩ := two_get hF hW ha hb hne (by omega) hr1
  have htk := take_mem (way := way) (i := 1) (by omega)
  rw [show way.length - 1 = (way.length - 2) + 1 by omega, spec_l13Push.put_, e0] at hput
  split at hput
  case isFalse => cases hput
  case isTrue =>
  obtain ⟨r1, r2⟩ := puts_good (F0 := F) hW hw hg.nd (by omega) hr (way.length - 2) 2 _ F2 (by omega) (by omega) g1 (fun x y hx hy hxy => by
    refine g4 x y hx hy ?_ ?_
    · rintro ⟨rfl, rfl⟩
      rcases hxy with h | h
      · exact h htk.1
      · exact h (htk.2 _ h0m)
    · rintro ⟨rfl, rfl⟩
      rcases hxy with h | h
      · exact h (htk.2 _ h0m)
      · exact h htk.1) hput
  refine ⟨r1, ?_⟩
  obtain ⟨c, hc⟩ : ∃ c : Nat, (c : Int) = rd way ((1 : Nat) : Int) := ⟨(rd way ((1 : Nat) : Int)).toNat, by omega⟩
  rw [← hc] at g2 g3 g4 hne hb
  have hv := valN_up (F := F) (F' := F2) (c := c) (mu := mu') (fun y hy => by
    rw [r2 (Nat.le_refl _) hg.first y, ← hc, g4 0 (y : Int) (by omega) (by omega) (by omega) (by omega), g4 (y : Int) 0 (by omega) (by omega) (by omega) (by omega)]) (by
    rw [r2 (Nat.le_refl _) hg.first c, ← hc, g2, g3]; omega) n
  rw [hv, if_pos (by omega)]
  omega
theorem most_go (W : List (List Int)) (n : Nat) (hn : n ≤ 8) (h2 : 2 ≤ n) (hWs : Sq n W) (hWm : ∀ x ∈ W, x.length = n ∧ ∀ v ∈ x, 0 ≤ v ∧ v ≤ 50) : ∀ (M : Nat) (F : List (List Int)), GoodF W n F → 400 - valN F n ≤ (M : Int) →
    ∃ R, GoodF W n R ∧ Ev (fun k => (spec_l13Way.f k W F).bind fun way => spec_l13Most.l1 k W F way) R ∧ Ev (fun k => impl_mostFlow.l1 k W F) R := by
  intro M
  induction M with
  | zero =>
    intro F hF hM
    exact most_step F hF (fun F' hF' hv => absurd (valN_le hF' (mem_get hWs.len hWm) (by omega) n (Nat.le_refl _)) (by omega))
  | succ M ih =>
    intro F hF hM
    exact most_step F hF (fun F' hF' hv => ih F' hF' (by omega))
where
  most_step (F : List (List Int)) (hF : GoodF W n F) (next : ∀ F', GoodF W n F' → valN F n + 1 ≤ valN F' n → ∃ R, GoodF W n R ∧ Ev (fun k => (spec_l13Way.f k W F').bind fun way => spec_l13Most.l1 k W F' way) R ∧ Ev (fun k => impl_mostFlow.l1 k W F') R) : ∃ R, GoodF W n R ∧ Ev (fun k => (spec_l13Way.f k W F).bind fun way => spec_l13Most.l1 k W F way) R ∧ Ev (fun k => impl_mostFlow.l1 k W F) R := by
    have hW := mem_get hWs.len hWm
    have hFm := hF.mem (fun a b h1 h2 h3 h4 => (hW a b h1 h2 h3 h4).2)
    have hWl := hWs.len
    obtain ⟨f, way, e1, e2, e3, e4, e5, e6⟩ := same_Way W F n hn h2 hWs.len hF.sq.len hWs.row hF.sq.row
    have hw1 : wrap64 ((W.length : Int) - 1) = (W.length : Int) - 1 := by unfold wrap64; omega
    have hcond : 0 ≤ wrap64 ((W.length : Int) - 1) ∧ wrap64 ((W.length : Int) - 1) < (f.length : Int) := by omega
    rcases e6 with ⟨e6, rfl⟩ | ⟨e6, e7, e8⟩
    · refine ⟨F, hF, Ev.bind e4 ?_, ?_⟩
      · exact Ev.round (f := fun _ => some F) (fun k => by simp only [spec_l13Most.l1]; rw [if_neg (by simp)]) (Ev.now _)
      · refine Ev.round (fun k => by simp only [impl_mostFlow.l1]; rfl) ?_
        exact Ev.bind e1 (Ev.ite_pos hcond (Ev.ite_pos e6 (Ev.now _)))
    · have hp : 0 < way.length := List.length_pos_iff.2 e7
      have hlen : 2 ≤ way.length := by
        rcases Nat.lt_or_ge way.length 2 with h | h
        · have h1 := e8.last
          rw [show ((way.length : Int) - 1) = 0 by omega, e8.first] at h1
          omega
        · exact h
      obtain ⟨F', mu, ⟨s1, s2⟩, p1, p2⟩ := same_pushed W F way n hn hWs.len hF.sq.len hWm hFm e8.inn (by omega) hlen
      obtain ⟨g1, g2⟩ := push_good hWs hW hF e8 hlen p1
      obtain ⟨R, r1, r2, r3⟩ := next F' g1 g2
      have hfl := hF.sq.len
      refine ⟨R, r1, Ev.bind e4 ?_, ?_⟩
      · refine Ev.round (fun k => by simp only [spec_l13Most.l1]; rw [if_pos hp, if_pos (by omega), p1, Option.bind_some]) ?_
        exact r2
      · refine Ev.round (fun k => by simp only [impl_mostFlow.l1]; rfl) ?_
        exact Ev.bind e1 (Ev.ite_pos hcond (Ev.ite_neg e6 (Ev.bind e5 (Ev.ite_neg e7 (Ev.bind p2 r3)))))
theorem zero_good (W : List (List Int)) (n : Nat) (hW : ∀ a b : Int, 0 ≤ a → a < (n : Int) → 0 ≤ b → b < (n : Int) → 0 ≤ get W a b ∧ get W a b ≤ 50) : GoodF W n (List.replicate n (List.replicate n 0)) := by
  refine ⟨⟨by simp, fun x hx => by rw [(List.mem_replicate.1 hx).2]; simp⟩, fun a b a0 a1 b0 b1 => ?_⟩
  have h1 : rd_L1 (List.replicate n (List.replicate n 0)) a = List.replicate n 0 := by
    show (List.replicate n (List.replicate n 0)).getD a.toNat [] = _
    rw [List.getD_eq_getElem?_getD, List.getElem?_replicate, if_pos (by omega)]
    rfl
  have h2 : get (List.replicate n (List.replicate n 0)) a b = 0 := by
    unfold get
    rw [h1]
    show (List.replicate n 0).getD b.toNat 0 = 0
    rw [List.getD_eq_getElem?_getD, List.getElem?_replicate, if_pos (by omega)]
    rfl
  rw [h2]
  exact ⟨Int.le_refl _, (hW a b a0 a1 b0 b1).1⟩
theorem spec_rows (W : List (List Int)) (n : Nat) (hn : n ≤ 8) (hW : W.length = n) (R : List (List Int)) : ∀ (m j : Nat) (acc : List (List Int)), j + m = n → acc.length = j → Ev (fun k => (spec_l13Way.f k W (acc ++ List.replicate m (List.replicate n 0))).bind fun way => spec_l13Most.l1 k W (acc ++ List.replicate m (List.replicate n 0)) way) R → Ev (fun k => spec_l13Most.l0 k W acc (n : Int) (j : Int)) R
  | 0, j, acc, h1, h2, h => by
    refine Ev.round (fun k => by simp only [spec_l13Most.l0]; rw [if_neg (by omega)]) ?_
    simpa using h
  | m + 1, j, acc, h1, h2, h => by
    refine Ev.round (fun k => by simp only [spec_l13Most.l0]; rw [if_pos (by omega), if_pos (by omega), if_pos (by omega), if_pos (by omega), Int.toNat_natCast, hW, show wrap64 ((j : Int) + 1) = ((j + 1 : Nat) : Int) by unfold wrap64; omega]) ?_
    refine spec_rows W n hn hW R m (j + 1) _ (by omega) (by simp; omega) ?_
    simpa [List.replicate_succ] using h
theorem impl_rows (W : List (List Int)) (n : Nat) (hn : n ≤ 8) (hW : W.length = n) (R : List (List Int)) : ∀ (m j : Nat) (acc : List (List Int)), j + m = n → acc.length = j → Ev (fun k => impl_mostFlow.l1 k W (acc ++ List.replicate m (List.replicate n 0))) R → Ev (fun k => impl_mostFlow.l0 k W acc (n : Int) (j : Int)) R
  | 0, j, acc, h1, h2, h => by
    refine Ev.round (fun k => by simp only [impl_mostFlow.l0]; rw [if_neg (by omega)]) ?_
    simpa using h
  | m + 1, j, acc, h1, h2, h => by
    refine Ev.round (fun k => by simp only [impl_mostFlow.l0]; rw [if_pos (by omega), if_pos (by omega), if_pos (by omega), if_pos (by omega), Int.toNat_natCast, hW, show wrap64 ((j : Int) + 1) = ((j + 1 : Nat) : Int) by unfold wrap64; omega]) ?_
    refine impl_rows W n hn hW R m (j + 1) _ (by omega) (by simp; omega) ?_
    simpa [List.replicate_succ] using h
theorem same_Most (W : List (List Int)) (hg : goodNetB W = true) : ∃ R, (R.length = W.length ∧ ∀ x ∈ R, x.length = W.length ∧ ∀ v ∈ x, 0 ≤ v ∧ v ≤ 50) ∧ Ev (fun k => spec_l13Most.f k W) R ∧ Ev (fun k => impl_mostFlow.f k W) R := by
  have hN := goodNetB_iff hg
  have hWs : Sq W.length W := ⟨rfl, fun x hx => (hN.2 x hx).1⟩
  have hW := mem_get rfl hN.2
  obtain ⟨R, r1, r2, r3⟩ := most_go W W.length (by omega) (by omega) hWs hN.2 400 (List.replicate W.length (List.replicate W.length 0)) (zero_good W _ hW) (by
    have hz : ∀ m : Nat, m ≤ W.length → valN (List.replicate W.length (List.replicate W.length 0)) m = 0 := by
      intro m
      induction m with
      | zero => intro _; rfl
      | succ m ih =>
        intro h
        have g := zero_good (List.replicate W.length (List.replicate W.length 0)) W.length (fun a b a0 a1 b0 b1 => by
          have := (zero_good W _ hW).bd a b a0 a1 b0 b1
          have := hW a b a0 a1 b0 b1
          omega)
        have q : ∀ a b : Int, 0 ≤ a → a < (W.length : Int) → 0 ≤ b → b < (W.length : Int) → get (List.replicate W.length (List.replicate W.length 0)) a b = 0 := by
          intro a b a0 a1 b0 b1
          have h1 : rd_L1 (List.replicate W.length (List.replicate W.length 0)) a = List.replicate W.length 0 := by
            show (List.replicate W.length (List.replicate W.length 0)).getD a.toNat [] = _
            rw [List.getD_eq_getElem?_getD, List.getElem?_replicate, if_pos (by omega)]
            rfl
          unfold get
          rw [h1]
          show (List.replicate W.length 0).getD b.toNat 0 = 0
          rw [List.getD_eq_getElem?_getD, List.getElem?_replicate, if_pos (by omega)]
          rfl
        rw [valN, ih (by omega), q _ _ (by omega) (by omega) (by omega) (by omega), q _ _ (by omega) (by omega) (by omega) (by omega)]
        rfl
    rw [hz _ (Nat.le_refl _)]
    omega)
  refine ⟨R, ⟨r1.sq.len, r1.mem (fun a b h1 h2 h3 h4 => (hW a b h1 h2 h3 h4).2)⟩, ?_, ?_⟩
  · unfold spec_l13Most.f
    exact spec_rows W W.length (by omega) rfl R W.length 0 [] (by omega) rfl (by simpa using r2)
  · unfold impl_mostFlow.f
    exact impl_rows W W.length (by omega) rfl R W.length 0 [] (by omega) rfl (by simpa using r3)
theorem cut_go (f s : List Int) (n : Nat) (W F : List (List Int)) (dis : List Int) (hn : n ≤ 8) (hI : Inv13 W F n f dis) (hR : Rel13 n f s) : ∀ (m j : Nat) (acc : List Int), j + m = n → acc.length ≤ j →
    ∃ R : List Int, R.length ≤ 8 ∧ Ev (fun k => spec_CutOf.l0 k acc s (n : Int) (j : Int)) (R, true) ∧ Ev (fun k => impl_CutOf.l0 k acc f (n : Int) (j : Int)) (R, true)
  | 0, j, acc, h1, h2 => by
    refine ⟨acc, by omega, Ev.round (f := fun _ => some (acc, true)) (fun k => by simp only [spec_CutOf.l0]; rw [if_neg (by omega)]) (Ev.now _), Ev.round (f := fun _ => some (acc, true)) (fun k => by simp only [impl_CutOf.l0]; rw [if_neg (by omega)]) (Ev.now _)⟩
  | m + 1, j, acc, h1, h2 => by
    have hfl := hI.len
    have hsl := hR.len
    have hw : wrap64 ((j : Int) + 1) = ((j + 1 : Nat) : Int) := by unfold wrap64; omega
    have key : rd s (j : Int) = -2 ↔ ¬ rd f (j : Int) ≥ 0 := by
      rcases Nat.eq_zero_or_pos j with rfl | h
      · have h1 := hI.zero
        have h2 := hR.zero
        rw [show ((0 : Nat) : Int) = 0 from rfl, h1, h2]
        decide
      · rw [hR.each (j : Int) (by omega) (by omega)]
        split <;> omega
    by_cases c : rd f (j : Int) ≥ 0
    · obtain ⟨R, r1, r2, r3⟩ := cut_go f s n W F dis hn hI hR m (j + 1) (acc ++ [(j : Int)]) (by omega) (by simp; omega)
      refine ⟨R, r1, ?_, ?_⟩
      · refine Ev.round (fun k => by simp only [spec_CutOf.l0]; rw [if_pos (by omega), if_pos (by omega), if_pos (by omega), if_neg (fun h => (key.1 h) c), if_pos (by omega), hw]) r2
      · refine Ev.round (fun k => by simp only [impl_CutOf.l0]; rw [if_pos (by omega), if_pos (by omega), if_pos (by omega), if_pos c, if_pos (by omega), hw]) r3
    · obtain ⟨R, r1, r2, r3⟩ := cut_go f s n W F dis hn hI hR m (j + 1) acc (by omega) (by omega)
      refine ⟨R, r1, ?_, ?_⟩
      · refine Ev.round (fun k => by simp only [spec_CutOf.l0]; rw [if_pos (by omega), if_pos (by omega), if_pos (by omega), if_pos (key.2 c), hw]) r2
      · refine Ev.round (fun k => by simp only [impl_CutOf.l0]; rw [if_pos (by omega), if_pos (by omega), if_pos (by omega), if_neg c, hw]) r3
theorem same_CutOf (W : List (List Int)) (hm : W.length ≤ 9223372036854775807) (hmx : ∀ x ∈ W, x.length ≤ 9223372036854775807) :
    ∃ (r : List Int) (b : Bool), r.length ≤ 8 ∧ Ev (fun k => spec_CutOf.f k W) (r, b) ∧ Ev (fun k => impl_CutOf.f k W) (r, b) := by
  unfold spec_CutOf.f impl_CutOf.f
  by_cases hg : goodNetB W = true
  · have hN := goodNetB_iff hg
    obtain ⟨F, ⟨r1, r2⟩, e1, e2⟩ := same_Most W hg
    obtain ⟨f, s, dis, hI, hR, hs, hf⟩ := come_all W F W.length (by omega) (by omega) rfl r1 (fun x hx => (hN.2 x hx).1) (fun x hx => (r2 x hx).1)
    obtain ⟨R, q1, q2, q3⟩ := cut_go f s W.length W F dis (by omega) hI hR W.length 0 [] (by omega) (by simp)
    have hfl := hI.len
    have hsl := hR.len
    refine ⟨R, true, q1, Ev.bind (ev_GoodNet W hm hmx) (Ev.ite_pos hg (Ev.bind e1 (Ev.bind hs ?_))), Ev.bind (ev_implGoodNet W) (Ev.ite_pos hg (Ev.bind e2 (Ev.bind hf ?_)))⟩
    · rw [hsl]; exact q2
    · rw [hfl]; exact q3
  · exact ⟨[], false, by simp, Ev.bind (ev_GoodNet W hm hmx) (Ev.ite_neg hg (Ev.now _)), Ev.bind (ev_implGoodNet W) (Ev.ite_neg hg (Ev.now _))⟩
end Go.Proofs.Ytdbepjnapjjlcaa.Pure
