import Derived.Test.YtdlblaihleojmaaGLCheapestFit0
import Derived.Test.YtdlblaihleojmaaGLCheapestFit1
import Derived.Test.YtdlblaihleojmaaGLCheapestFit2
import Derived.Test.YtdlblaihleojmaaGLCheapestFit4
import Derived.Test.YtdlblaihleojmaaGLCheapestFit5
import Derived.Test.YtdlblaihleojmaaGLCheapestFit6
import Derived.Test.YtdlblaihleojmaaGLCheapestFit7
import Derived.Test.YtdlblaihleojmaaGLCheapestFit8
import Derived.Test.YtdlblaihleojmaaGLCheapestFit9
namespace Go.Proofs.Ytdlblaihleojmaa.Pure
open Go.RowKit Go.Proofs.Ytdlblaihleojmaa.GLCheapestFit Go.Proofs.YtdlblaihleojmaaW.PrintWords Go.Proofs.YtdlblaihleojmaaW.PrintLast Go.Proofs.YtdlblaihleojmaaW.PrintMore Go.Proofs.YtdlblaihleojmaaW.PrintOwn
set_option linter.unusedVariables false
set_option linter.unusedSimpArgs false
theorem Ev.bindc {α β : Type} {g : Option α} {f : Nat → α → Option β} {a : α} {r : β} (h : g = some a) (k : Ev (fun n => f n a) r) : Ev (fun n => g.bind (f n)) r := by
  subst h
  exact k
/-- One round. -/
theorem Ev.round {α : Type} {g f : Nat → Option α} {r : α} (h : ∀ k, g (k + 1) = f k) (k : Ev f r) : Ev g r := Ev.step h k
theorem Ev.eqv {α : Type} {g f : Nat → Option α} {r : α} (h : ∀ k, g k = f k) (k : Ev f r) : Ev g r := Ev.congr h k
theorem Ev.cast {α : Type} {g : Nat → Option α} {r r' : α} (h : Ev g r) (e : r = r') : Ev g r' := e ▸ h
theorem Ev.ite_pos {α : Type} {c : Prop} [Decidable c] {g f : Nat → Option α} {r : α} (hc : c) (k : Ev g r) : Ev (fun n => if c then g n else f n) r := by
  refine Ev.eqv (fun n => ?_) k
  rw [if_pos hc]
theorem Ev.ite_neg {α : Type} {c : Prop} [Decidable c] {g f : Nat → Option α} {r : α} (hc : ¬ c) (k : Ev f r) : Ev (fun n => if c then g n else f n) r := by
  refine Ev.eqv (fun n => ?_) k
  rw [if_neg hc]
theorem getD_mid {α : Type} (d : α) (pre suf : List α) (x : α) : (pre ++ x :: suf).getD (pre.length : Int).toNat d = x := by
  rw [Int.toNat_natCast, List.getD_eq_getElem?_getD, List.getElem?_append_right (Nat.le_refl _), Nat.sub_self]
  rfl
theorem rd_mid (pre suf : List Int) (x : Int) : rd (pre ++ x :: suf) (pre.length : Int) = x := getD_mid 0 pre suf x
theorem lt_mid {α : Type} (pre suf : List α) (x : α) : (pre.length : Int) < ((pre ++ x :: suf).length : Int) := by
  rw [List.length_append, List.length_cons]; omega
theorem up_mid {α : Type} (pre suf : List α) (x : α) (h : (pre ++ x :: suf).length ≤ 9223372036854775807) : wrap64 ((pre.length : Int) + 1) = ((pre ++ [x]).length : Int) := by
  rw [List.length_append, List.length_cons] at h
  rw [List.length_append, List.length_singleton]
  unfold wrap64
  omega
theorem snoc_mid {α : Type} (pre suf : List α) (x : α) : pre ++ x :: suf = (pre ++ [x]) ++ suf := by simp
theorem Ev.need {α β : Type} [DecidableEq α] {g : Nat → Option α} {a : α} {f : Nat → Option β} {r : β} (h : Ev g a) (k : Ev f r) : Ev (fun n => if g n = some a then f n else none) r := by
  obtain ⟨m1, h1⟩ := h
  obtain ⟨m2, h2⟩ := k
  exact ⟨max m1 m2, fun n hn => by show (if g n = some a then f n else none) = some r; rw [if_pos (h1 n (by omega))]; exact h2 n (by omega)⟩
/-- All numbers lie between two. -/
def allIn (l : List Int) (lo hi : Int) : Bool := l.all fun n => decide (lo ≤ n) && decide (n ≤ hi)
theorem allIn_iff {l : List Int} {lo hi : Int} : allIn l lo hi = true ↔ ∀ x ∈ l, lo ≤ x ∧ x ≤ hi := by
  unfold allIn
  rw [List.all_eq_true]
  simp
theorem ev_toIntS_l (l : List Int) (hn : l.length ≤ 35184372088832) : ∀ (suf pre : List Int), l = pre ++ suf → ∀ (z : List Int), z.length = suf.length → Ev (fun k => laws_toIntS.l0 k l (pre ++ z) (pre.length : Int)) l
  | [], pre, e, z, hz => by
    subst e
    have : z = [] := List.length_eq_zero_iff.1 hz
    subst this
    refine Ev.round (f := fun _ => some (pre ++ [])) (fun k => ?_) (Ev.now _)
    simp only [laws_toIntS.l0]
    rw [if_neg (by simp)]
  | x :: suf, pre, e, [], hz => by simp at hz
  | x :: suf, pre, e, y :: z, hz => by
    subst e
    have ih := ev_toIntS_l (pre ++ x :: suf) hn suf (pre ++ [x]) (snoc_mid _ _ _) z (by simpa using hz)
    refine Ev.round (fun k => ?_) ih
    simp only [laws_toIntS.l0]
    rw [if_pos (lt_mid _ _ _), if_pos (by omega), if_pos (lt_mid _ _ _), rd_mid, up_mid pre suf x (by omega)]
    congr 1
    rw [Int.toNat_natCast, List.set_append_right _ _ (Nat.le_refl _), Nat.sub_self, List.set_cons_zero]
    simp
theorem ev_toIntS (l : List Int) (hn : l.length ≤ 35184372088832) : Ev (fun k => laws_toIntS.f k l) l := by
  have h := ev_toIntS_l l hn l [] rfl (List.replicate l.length 0) (by simp)
  refine Ev.eqv (fun k => ?_) h
  unfold laws_toIntS.f
  rw [if_pos (by omega), Int.toNat_natCast, if_pos hn]
  rfl
theorem ev_eqIntS_l (a b : List Int) (hab : a.length = b.length) (hn : a.length ≤ 9223372036854775807) : ∀ (sa pa sb pb : List Int), a = pa ++ sa → b = pb ++ sb → pa.length = pb.length → Ev (fun k => laws_eqIntS.l0 k a b (pa.length : Int)) (decide (sa = sb))
  | [], pa, sb, pb, ea, eb, hp => by
    subst ea
    refine Ev.round (f := fun _ => some true) (fun k => ?_) (Ev.cast (Ev.now _) ?_)
    · simp only [laws_eqIntS.l0]
      rw [if_neg (by simp)]
    · have : sb = [] := by
        rw [eb] at hab
        simp at hab
        exact List.length_eq_zero_iff.1 (by omega)
      rw [this]; rfl
  | x :: sa, pa, [], pb, ea, eb, hp => by
    rw [ea, eb] at hab
    simp at hab
    omega
  | x :: sa, pa, y :: sb, pb, ea, eb, hp => by
    subst ea
    subst eb
    have h1 : ((pa.length : Nat) : Int) = (pb.length : Int) := by omega
    by_cases e : x = y
    · subst e
      have ih := ev_eqIntS_l (pa ++ x :: sa) (pb ++ x :: sb) hab hn sa (pa ++ [x]) sb (pb ++ [x]) (snoc_mid _ _ _) (snoc_mid _ _ _) (by simp [hp])
      refine Ev.round (fun k => ?_) (Ev.cast ih (by simp))
      simp only [laws_eqIntS.l0]
      rw [if_pos (lt_mid _ _ _), if_pos (by omega), if_pos (by rw [h1]; exact lt_mid _ _ _), rd_mid, h1, rd_mid, if_pos rfl, ← h1, up_mid _ _ _ hn]
    · refine Ev.round (f := fun _ => some false) (fun k => ?_) (Ev.cast (Ev.now _) (by simp [e]))
      simp only [laws_eqIntS.l0]
      rw [if_pos (lt_mid _ _ _), if_pos (by omega), if_pos (by rw [h1]; exact lt_mid _ _ _), rd_mid, h1, rd_mid, if_neg e]
theorem ev_eqIntS (a b : List Int) (hn : a.length ≤ 9223372036854775807) : Ev (fun k => laws_eqIntS.f k a b) (decide (a = b)) := by
  unfold laws_eqIntS.f
  by_cases h : a.length = b.length
  · exact Ev.ite_pos (by omega) (ev_eqIntS_l a b h hn a [] b [] rfl rfl rfl)
  · refine Ev.ite_neg (by omega) (Ev.cast (Ev.now _) ?_)
    rw [decide_eq_false]
    rintro rfl
    exact h rfl
theorem in_eq (a lo hi : Int) : spec_l1In.f a lo hi = some (decide (lo ≤ a) && decide (a ≤ hi)) := by
  unfold spec_l1In.f
  by_cases h : a ≥ lo
  · rw [if_pos h]; simp [h]
  · rw [if_neg h]; simp [h]
theorem ev_l1All_l (l : List Int) (lo hi : Int) (hn : l.length ≤ 9223372036854775807) : ∀ (suf pre : List Int), l = pre ++ suf → Ev (fun k => spec_l1All.l0 k lo hi l (l.length : Int) (pre.length : Int)) (allIn suf lo hi)
  | [], pre, e => by
    subst e
    refine Ev.round (f := fun _ => some true) (fun k => ?_) (Ev.now _)
    simp only [spec_l1All.l0]
    rw [if_neg (by simp)]
  | x :: suf, pre, e => by
    subst e
    by_cases c : (decide (lo ≤ x) && decide (x ≤ hi)) = true
    · have ih := ev_l1All_l (pre ++ x :: suf) lo hi hn suf (pre ++ [x]) (snoc_mid _ _ _)
      refine Ev.round (fun k => ?_) (Ev.cast ih (by unfold allIn; rw [List.all_cons, c, Bool.true_and]))
      simp only [spec_l1All.l0]
      rw [if_pos (lt_mid _ _ _), if_pos (by omega), if_pos (lt_mid _ _ _), rd_mid, in_eq, Option.bind_some, if_pos c, up_mid _ _ _ hn]
    · refine Ev.round (f := fun _ => some false) (fun k => ?_) (Ev.cast (Ev.now _) (by unfold allIn; rw [List.all_cons, Bool.eq_false_iff.2 c, Bool.false_and]))
      simp only [spec_l1All.l0]
      rw [if_pos (lt_mid _ _ _), if_pos (by omega), if_pos (lt_mid _ _ _), rd_mid, in_eq, Option.bind_some, if_neg c]
theorem ev_l1All (l : List Int) (lo hi : Int) (hn : l.length ≤ 9223372036854775807) : Ev (fun k => spec_l1All.f k l lo hi) (allIn l lo hi) := ev_l1All_l l lo hi hn l [] rfl
/-- n numbers from a on. -/
def upFrom (a : Int) : Nat → List Int
  | 0 => []
  | n + 1 => a :: upFrom (a + 1) n
theorem ev_markIntS_l : ∀ (suf pre : List Int) (a : Int), 0 ≤ a → a + suf.length ≤ 4611686018427387904 → pre.length + suf.length ≤ 4611686018427387904 → Ev (fun k => laws_markIntS.l0 k (pre ++ suf) a (pre.length : Int)) (a + suf.length, pre ++ upFrom a suf.length)
  | [], pre, a, h0, h1, h2 => by
    refine Ev.round (f := fun _ => some (a, pre ++ [])) (fun k => ?_) (Ev.cast (Ev.now _) (by simp [upFrom]))
    simp only [laws_markIntS.l0]
    rw [if_neg (by simp)]
  | x :: suf, pre, a, h0, h1, h2 => by
    rw [List.length_cons] at h1 h2
    have ih := ev_markIntS_l suf (pre ++ [a]) (a + 1) (by omega) (by omega) (by simp; omega)
    refine Ev.round (fun k => ?_) (Ev.cast ih (by rw [List.length_cons, upFrom]; simp; omega))
    simp only [laws_markIntS.l0]
    have hw : wrap64 (a + 1) = a + 1 := by unfold wrap64; omega
    have hw2 : wrap64 ((pre.length : Int) + 1) = ((pre ++ [a]).length : Int) := by unfold wrap64; simp; omega
    rw [if_pos (lt_mid _ _ _), if_pos (by omega), hw, hw2, Int.toNat_natCast, List.set_append_right _ _ (Nat.le_refl _), Nat.sub_self, List.set_cons_zero]
    simp
theorem ev_markIntS (l : List Int) (a : Int) (h0 : 0 ≤ a) (h1 : a + l.length ≤ 4611686018427387904) : Ev (fun k => laws_markIntS.f k l a) (a + l.length, upFrom a l.length) := ev_markIntS_l l [] a h0 h1 (by simp; omega)
theorem ev_heldIntS_l : ∀ (n : Nat) (pre : List Int) (a : Int), 0 ≤ a → a + n ≤ 4611686018427387904 → pre.length + n ≤ 4611686018427387904 → Ev (fun k => laws_heldIntS.l0 k (pre ++ upFrom a n) a (pre.length : Int)) (a + n)
  | 0, pre, a, h0, h1, h2 => by
    refine Ev.round (f := fun _ => some a) (fun k => ?_) (Ev.cast (Ev.now _) (by simp))
    simp only [laws_heldIntS.l0]
    rw [if_neg (by simp [upFrom])]
  | n + 1, pre, a, h0, h1, h2 => by
    have ih := ev_heldIntS_l n (pre ++ [a]) (a + 1) (by omega) (by omega) (by simp; omega)
    refine Ev.round (fun k => ?_) (Ev.cast ih (by omega))
    rw [upFrom]
    simp only [laws_heldIntS.l0]
    have hw : wrap64 (a + 1) = a + 1 := by unfold wrap64; omega
    have hw2 : wrap64 ((pre.length : Int) + 1) = ((pre ++ [a]).length : Int) := by unfold wrap64; simp; omega
    rw [if_pos (lt_mid _ _ _), if_pos (by omega), rd_mid, if_pos rfl, hw, hw2]
    simp
theorem ev_heldIntS (a : Int) (n : Nat) (h0 : 0 ≤ a) (h1 : a + n ≤ 4611686018427387904) : Ev (fun k => laws_heldIntS.f k (upFrom a n) a) (a + n) := ev_heldIntS_l n [] a h0 h1 (by simp; omega)
theorem szIntS_eq (l : List Int) (a : Int) : laws_szIntS.f l a = some (if wrap64 (a - (l.length : Int)) < 0 then -1 else wrap64 (a - (l.length : Int))) := by
  unfold laws_szIntS.f
  split <;> rfl
theorem rdL_mid (pre suf : List (List Int)) (x : List Int) : rd_L1 (pre ++ x :: suf) (pre.length : Int) = x := getD_mid [] pre suf x
/-- What two texts answer alike. -/
def Same {α : Type} (g h : Nat → Option α) : Prop := ∃ r, Ev g r ∧ Ev h r
theorem Same.now {α : Type} (r : α) : Same (fun _ => some r) (fun _ => some r) := ⟨r, Ev.now _, Ev.now _⟩
theorem Same.round {α : Type} {g h g' h' : Nat → Option α} (a : ∀ k, g (k + 1) = g' k) (b : ∀ k, h (k + 1) = h' k) (s : Same g' h') : Same g h := by
  obtain ⟨r, p, q⟩ := s
  exact ⟨r, Ev.round a p, Ev.round b q⟩
theorem Same.eqv {α : Type} {g h g' h' : Nat → Option α} (a : ∀ k, g k = g' k) (b : ∀ k, h k = h' k) (s : Same g' h') : Same g h := by
  obtain ⟨r, p, q⟩ := s
  exact ⟨r, Ev.eqv a p, Ev.eqv b q⟩
theorem Same.bind {α β : Type} {g h : Nat → Option α} {f f' : Nat → α → Option β} {a : α} (p : Ev g a) (q : Ev h a) (s : Same (fun n => f n a) (fun n => f' n a)) : Same (fun n => (g n).bind (f n)) (fun n => (h n).bind (f' n)) := by
  obtain ⟨r, p', q'⟩ := s
  exact ⟨r, Ev.bind p p', Ev.bind q q'⟩
def szI (x : List Int) (a : Int) : Int := if wrap64 (a - (x.length : Int)) < 0 then -1 else wrap64 (a - (x.length : Int))
def szGo (a : Int) : List (List Int) → Int
  | [] => a
  | x :: l => if szI x a < 0 then -1 else szGo (szI x a) l
def szRows (l : List (List Int)) (a : Int) : Int := if wrap64 (a - (l.length : Int)) < 0 then -1 else szGo (wrap64 (a - (l.length : Int))) l
theorem ev_szIntSS_l (l : List (List Int)) (hn : l.length ≤ 9223372036854775807) : ∀ (suf pre : List (List Int)) (a : Int), l = pre ++ suf → Ev (fun k => laws_szIntSS.l0 k l a (pre.length : Int)) (szGo a suf)
  | [], pre, a, e => by
    subst e
    refine Ev.round (f := fun _ => some a) (fun k => ?_) (Ev.now _)
    simp only [laws_szIntSS.l0]
    rw [if_neg (by simp)]
  | x :: suf, pre, a, e => by
    subst e
    have hz : laws_szIntS.f x a = some (szI x a) := szIntS_eq x a
    by_cases c : szI x a < 0
    · refine Ev.round (f := fun _ => some (-1)) (fun k => ?_) (Ev.cast (Ev.now _) (by rw [szGo, if_pos c]))
      simp only [laws_szIntSS.l0]
      rw [if_pos (lt_mid _ _ _), if_pos (by omega), rdL_mid, hz, Option.bind_some, if_pos c]
    · have ih := ev_szIntSS_l (pre ++ x :: suf) hn suf (pre ++ [x]) (szI x a) (snoc_mid _ _ _)
      refine Ev.round (fun k => ?_) (Ev.cast ih (by rw [szGo, if_neg c]))
      simp only [laws_szIntSS.l0]
      rw [if_pos (lt_mid _ _ _), if_pos (by omega), rdL_mid, hz, Option.bind_some, if_neg c, up_mid _ _ _ hn]
theorem ev_szIntSS (l : List (List Int)) (a : Int) (hn : l.length ≤ 9223372036854775807) : Ev (fun k => laws_szIntSS.f k l a) (szRows l a) := by
  unfold laws_szIntSS.f szRows
  by_cases c : wrap64 (a - (l.length : Int)) < 0
  · rw [if_pos c]
    exact Ev.ite_pos c (Ev.now _)
  · rw [if_neg c]
    exact Ev.ite_neg c (ev_szIntSS_l l hn l [] _ rfl)
theorem szI_ok {x : List Int} {a : Int} (h0 : 0 ≤ a) (ha : a ≤ 4611686018427387904) (hx : x.length ≤ 9223372036854775807) (h : ¬ szI x a < 0) : (x.length : Int) ≤ a ∧ szI x a = a - x.length := by
  have hw : wrap64 (a - (x.length : Int)) = a - x.length := by unfold wrap64; omega
  unfold szI at h ⊢
  rw [hw] at h ⊢
  by_cases c : a - (x.length : Int) < 0
  · rw [if_pos c] at h; omega
  · rw [if_neg c]; omega
theorem szGo_ok : ∀ (l : List (List Int)) (a : Int), 0 ≤ a → a ≤ 4611686018427387904 → (∀ x ∈ l, x.length ≤ 9223372036854775807) → ¬ szGo a l < 0 → (∀ x ∈ l, (x.length : Int) ≤ a) ∧ szGo a l ≤ a
  | [], a, h0, ha, hx, h => ⟨by simp, Int.le_refl _⟩
  | x :: l, a, h0, ha, hx, h => by
    rw [szGo] at h ⊢
    by_cases c : szI x a < 0
    · rw [if_pos c] at h; omega
    · rw [if_neg c] at h ⊢
      obtain ⟨h1, h2⟩ := szI_ok h0 ha (hx x (by simp)) c
      obtain ⟨h3, h4⟩ := szGo_ok l (szI x a) (by omega) (by omega) (fun y hy => hx y (by simp [hy])) h
      refine ⟨fun y hy => ?_, by omega⟩
      rcases List.mem_cons.1 hy with rfl | hy
      · exact h1
      · have := h3 y hy; omega
theorem szRows_ok {l : List (List Int)} {a : Int} (h0 : 0 ≤ a) (ha : a ≤ 4611686018427387904) (hl : l.length ≤ 9223372036854775807) (hx : ∀ x ∈ l, x.length ≤ 9223372036854775807) (h : ¬ szRows l a < 0) : (l.length : Int) ≤ a ∧ (∀ x ∈ l, (x.length : Int) ≤ a) ∧ szRows l a ≤ a := by
  have hw : wrap64 (a - (l.length : Int)) = a - l.length := by unfold wrap64; omega
  unfold szRows at h ⊢
  rw [hw] at h ⊢
  by_cases c : a - (l.length : Int) < 0
  · rw [if_pos c] at h; omega
  · rw [if_neg c] at h ⊢
    obtain ⟨h3, h4⟩ := szGo_ok l _ (by omega) (by omega) hx h
    exact ⟨by omega, fun x hx => by have := h3 x hx; omega, by omega⟩
theorem szGo_flat : ∀ (l : List (List Int)) (a : Int), 0 ≤ a → a ≤ 4611686018427387904 → (∀ x ∈ l, x.length ≤ 9223372036854775807) → ¬ szGo a l < 0 → (l.flatten.length : Int) ≤ a
  | [], a, h0, _, _, _ => by simpa using h0
  | x :: l, a, h0, ha, hx, h => by
    rw [szGo] at h
    by_cases c : szI x a < 0
    · rw [if_pos c] at h; omega
    · rw [if_neg c] at h
      obtain ⟨h1, h2⟩ := szI_ok h0 ha (hx x (by simp)) c
      have h3 := szGo_flat l (szI x a) (by omega) (by omega) (fun y hy => hx y (by simp [hy])) h
      rw [List.flatten_cons, List.length_append]
      omega
theorem szRows_flat {l : List (List Int)} {a : Int} (h0 : 0 ≤ a) (ha : a ≤ 4611686018427387904) (hl : l.length ≤ 9223372036854775807) (hx : ∀ x ∈ l, x.length ≤ 9223372036854775807) (h : ¬ szRows l a < 0) : (l.flatten.length : Int) ≤ a := by
  have hw : wrap64 (a - (l.length : Int)) = a - l.length := by unfold wrap64; omega
  unfold szRows at h
  rw [hw] at h
  by_cases c : a - (l.length : Int) < 0
  · rw [if_pos c] at h; omega
  · rw [if_neg c] at h
    have := szGo_flat l _ (by omega) (by omega) hx h
    omega
theorem ev_toIntSS_l (l : List (List Int)) (hn : l.length ≤ 11728124029610) (hx : ∀ x ∈ l, x.length ≤ 35184372088832) : ∀ (suf pre : List (List Int)), l = pre ++ suf → ∀ (z : List (List Int)), z.length = suf.length → Ev (fun k => laws_toIntSS.l0 k l (pre ++ z) (pre.length : Int)) l
  | [], pre, e, z, hz => by
    subst e
    have : z = [] := List.length_eq_zero_iff.1 hz
    subst this
    refine Ev.round (f := fun _ => some (pre ++ [])) (fun k => ?_) (Ev.now _)
    simp only [laws_toIntSS.l0]
    rw [if_neg (by simp)]
  | x :: suf, pre, e, [], hz => by simp at hz
  | x :: suf, pre, e, y :: z, hz => by
    subst e
    have ih := ev_toIntSS_l (pre ++ x :: suf) hn hx suf (pre ++ [x]) (snoc_mid _ _ _) z (by simpa using hz)
    have ht := ev_toIntS x (hx x (by simp))
    refine Ev.round (fun k => ?_) (Ev.bind ht (f := fun k t => laws_toIntSS.l0 k (pre ++ x :: suf) (pre ++ [t] ++ z) (((pre ++ [x]).length : Nat) : Int)) ih)
    simp only [laws_toIntSS.l0]
    rw [if_pos (lt_mid _ _ _), if_pos (by omega), rdL_mid]
    congr 1
    funext t
    rw [if_pos (lt_mid _ _ _), up_mid pre suf x (by omega), Int.toNat_natCast, List.set_append_right _ _ (Nat.le_refl _), Nat.sub_self, List.set_cons_zero]
    simp
theorem ev_toIntSS (l : List (List Int)) (hn : l.length ≤ 11728124029610) (hx : ∀ x ∈ l, x.length ≤ 35184372088832) : Ev (fun k => laws_toIntSS.f k l) l := by
  have h := ev_toIntSS_l l hn hx l [] rfl (List.replicate l.length []) (by simp)
  refine Ev.eqv (fun k => ?_) h
  unfold laws_toIntSS.f
  rw [if_pos (by omega), Int.toNat_natCast, if_pos hn]
  rfl
theorem ev_eqIntSS_l (a b : List (List Int)) (hab : a.length = b.length) (hn : a.length ≤ 9223372036854775807) (hx : ∀ x ∈ a, x.length ≤ 9223372036854775807) : ∀ (sa pa sb pb : List (List Int)), a = pa ++ sa → b = pb ++ sb → pa.length = pb.length → Ev (fun k => laws_eqIntSS.l0 k a b (pa.length : Int)) (decide (sa = sb))
  | [], pa, sb, pb, ea, eb, hp => by
    subst ea
    refine Ev.round (f := fun _ => some true) (fun k => ?_) (Ev.cast (Ev.now _) ?_)
    · simp only [laws_eqIntSS.l0]
      rw [if_neg (by simp)]
    · have : sb = [] := by
        rw [eb] at hab
        simp at hab
        exact List.length_eq_zero_iff.1 (by omega)
      rw [this]; rfl
  | x :: sa, pa, [], pb, ea, eb, hp => by
    rw [ea, eb] at hab
    simp at hab
    omega
  | x :: sa, pa, y :: sb, pb, ea, eb, hp => by
    subst ea
    subst eb
    have h1 : ((pa.length : Nat) : Int) = (pb.length : Int) := by omega
    have h2 : (pa.length : Int) < ((pb ++ y :: sb).length : Int) := by rw [h1]; exact lt_mid _ _ _
    have h3 : rd_L1 (pb ++ y :: sb) (pa.length : Int) = y := by rw [h1]; exact rdL_mid _ _ _
    have he := ev_eqIntS x y (hx x (by simp))
    have ih := fun (e : x = y) => ev_eqIntSS_l (pa ++ x :: sa) (pb ++ y :: sb) hab hn hx sa (pa ++ [x]) sb (pb ++ [y]) (snoc_mid _ _ _) (snoc_mid _ _ _) (by simp [hp])
    refine Ev.round (fun k => ?_) (Ev.bind he (f := fun k t => if t = true then laws_eqIntSS.l0 k (pa ++ x :: sa) (pb ++ y :: sb) (((pa ++ [x]).length : Nat) : Int) else some false) ?_)
    · simp only [laws_eqIntSS.l0]
      rw [if_pos (lt_mid _ _ _), if_pos (by omega), if_pos h2, rdL_mid, h3, up_mid _ _ _ hn]
    · by_cases e : x = y
      · exact Ev.ite_pos (by simp [e]) (Ev.cast (ih e) (by simp [e]))
      · exact Ev.ite_neg (by simp [e]) (Ev.cast (Ev.now _) (by simp [e]))
theorem ev_eqIntSS (a b : List (List Int)) (hn : a.length ≤ 9223372036854775807) (hx : ∀ x ∈ a, x.length ≤ 9223372036854775807) : Ev (fun k => laws_eqIntSS.f k a b) (decide (a = b)) := by
  unfold laws_eqIntSS.f
  by_cases h : a.length = b.length
  · exact Ev.ite_pos (by omega) (ev_eqIntSS_l a b h hn hx a [] b [] rfl rfl rfl)
  · refine Ev.ite_neg (by omega) (Ev.cast (Ev.now _) ?_)
    rw [decide_eq_false]
    rintro rfl
    exact h rfl
/-- All rows are as long as n says, and lie from 0 up to hi. -/
def rowsB (n : Nat) (hi : Int) (l : List (List Int)) : Bool := l.all fun x => decide (x.length = n) && allIn x 0 hi
theorem rowsB_iff {n : Nat} {hi : Int} {l : List (List Int)} : rowsB n hi l = true ↔ ∀ x ∈ l, x.length = n ∧ ∀ v ∈ x, 0 ≤ v ∧ v ≤ hi := by
  unfold rowsB
  rw [List.all_eq_true]
  refine forall_congr' fun x => ?_
  rw [Bool.and_eq_true, decide_eq_true_eq, allIn_iff]
def costsB (l : List (List Int)) : Bool := (decide (1 ≤ (l.length : Int)) && decide ((l.length : Int) ≤ 10)) && rowsB l.length 100 l
theorem costsB_iff {l : List (List Int)} (h : costsB l = true) : (1 ≤ l.length ∧ l.length ≤ 10) ∧ ∀ x ∈ l, x.length = l.length ∧ ∀ v ∈ x, 0 ≤ v ∧ v ≤ 100 := by
  unfold costsB at h
  rw [Bool.and_eq_true, rowsB_iff] at h
  refine ⟨?_, h.2⟩
  have := h.1
  simp at this
  omega
theorem ev_GoodCosts_l (l : List (List Int)) (hn : l.length ≤ 9223372036854775807) (hx : ∀ x ∈ l, x.length ≤ 9223372036854775807) : ∀ (suf pre : List (List Int)), l = pre ++ suf →
    Ev (fun k => spec_GoodCosts.l0 k l l (l.length : Int) (pre.length : Int)) (rowsB l.length 100 suf && (decide (1 ≤ (l.length : Int)) && decide ((l.length : Int) ≤ 10)))
  | [], pre, e => by
    subst e
    refine Ev.round (f := fun _ => some (decide (1 ≤ ((pre ++ []).length : Int)) && decide (((pre ++ []).length : Int) ≤ 10))) (fun k => ?_) (Ev.cast (Ev.now _) (by simp [rowsB]))
    simp only [spec_GoodCosts.l0]
    rw [if_neg (by simp), in_eq, Option.bind_some]
  | x :: suf, pre, e => by
    subst e
    have ih := ev_GoodCosts_l (pre ++ x :: suf) hn hx suf (pre ++ [x]) (snoc_mid _ _ _)
    generalize hN : (pre ++ x :: suf).length = N at ih ⊢
    by_cases c : x.length = N
    · have ha := ev_l1All x 0 100 (hx x (by simp))
      refine Ev.round (fun k => ?_) (Ev.bind ha (f := fun k t => if t = true then spec_GoodCosts.l0 k (pre ++ x :: suf) (pre ++ x :: suf) (N : Int) (((pre ++ [x]).length : Nat) : Int) else some false) ?_)
      · simp only [spec_GoodCosts.l0]
        rw [if_pos (by rw [← hN]; exact lt_mid _ _ _), if_pos (by omega), if_pos (lt_mid _ _ _), rdL_mid, hN, if_pos (by omega), up_mid _ _ _ hn]
      · by_cases d : allIn x 0 100 = true
        · exact Ev.ite_pos d (Ev.cast ih (by unfold rowsB; rw [List.all_cons, d, decide_eq_true c]; rfl))
        · exact Ev.ite_neg d (Ev.cast (Ev.now _) (by unfold rowsB; rw [List.all_cons, Bool.eq_false_iff.2 d]; simp))
    · refine Ev.round (f := fun _ => some false) (fun k => ?_) (Ev.cast (Ev.now _) (by unfold rowsB; rw [List.all_cons, decide_eq_false c]; simp))
      simp only [spec_GoodCosts.l0]
      rw [if_pos (by rw [← hN]; exact lt_mid _ _ _), if_pos (by omega), if_pos (lt_mid _ _ _), rdL_mid, hN, if_neg (by omega)]
theorem ev_GoodCosts (l : List (List Int)) (hn : l.length ≤ 9223372036854775807) (hx : ∀ x ∈ l, x.length ≤ 9223372036854775807) : Ev (fun k => spec_GoodCosts.f k l) (costsB l) :=
  Ev.cast (ev_GoodCosts_l l hn hx l [] rfl) (Bool.and_comm _ _)
theorem goodCosts_eq (l : List (List Int)) : impl_GoodCosts.f l = some (costsB l) := rfl
theorem ev_eqPrices (a b : List Int) (ha : a.length ≤ 9223372036854775807) (hb : b.length ≤ 9223372036854775807) : Ev (fun k => laws_eqPrices.f k a b a b) true := by
  unfold laws_eqPrices.f
  refine Ev.bind (ev_eqIntS a a ha) ?_
  refine Ev.ite_pos (by simp) (Ev.bind (ev_eqIntS b b hb) ?_)
  exact Ev.ite_pos (by simp) (Ev.now _)
def markR : Int → List (List Int) → List (List Int)
  | _, [] => []
  | a, x :: l => upFrom a x.length :: markR (a + x.length) l
theorem markS_run : ∀ (suf pre : List Int) (a : Int) (k : Nat), 0 ≤ a → a + suf.length ≤ 4611686018427387904 → pre.length + suf.length ≤ 4611686018427387904 → suf.length < k → laws_markIntS.l0 k (pre ++ suf) a (pre.length : Int) = some (a + suf.length, pre ++ upFrom a suf.length)
  | [], pre, a, k, h0, h1, h2, hk => by
    obtain ⟨k, rfl⟩ : ∃ j, k = j + 1 := ⟨k - 1, by simp at hk; omega⟩
    simp only [laws_markIntS.l0]
    rw [if_neg (by simp)]
    simp [upFrom]
  | x :: suf, pre, a, k, h0, h1, h2, hk => by
    rw [List.length_cons] at h1 h2 hk
    obtain ⟨k, rfl⟩ : ∃ j, k = j + 1 := ⟨k - 1, by omega⟩
    have ih := markS_run suf (pre ++ [a]) (a + 1) k (by omega) (by omega) (by simp; omega) (by omega)
    simp only [laws_markIntS.l0]
    have hw : wrap64 (a + 1) = a + 1 := by unfold wrap64; omega
    have hw2 : wrap64 ((pre.length : Int) + 1) = ((pre ++ [a]).length : Int) := by unfold wrap64; simp; omega
    rw [if_pos (lt_mid _ _ _), if_pos (by omega), hw, hw2, Int.toNat_natCast, List.set_append_right _ _ (Nat.le_refl _), Nat.sub_self, List.set_cons_zero, show pre ++ a :: suf = (pre ++ [a]) ++ suf from by simp, ih, List.length_cons, upFrom]
    simp
    omega
theorem markS_eq (l : List Int) (a : Int) (h0 : 0 ≤ a) (h1 : a + l.length ≤ 4611686018427387904) : laws_markIntS.f (l.length + 1) l a = some (a + l.length, upFrom a l.length) := markS_run l [] a _ h0 h1 (by simp; omega) (Nat.lt_succ_self _)
theorem markSS_eq : ∀ (l : List (List Int)) (a : Int), 0 ≤ a → a + (l.flatten.length : Int) ≤ 4611686018427387904 → laws_markIntSS.g l a = some (a + l.flatten.length, markR a l)
  | [], a, _, _ => by simp [laws_markIntSS.g, markR]
  | x :: l, a, h0, h1 => by
    rw [List.flatten_cons, List.length_append] at h1
    rw [laws_markIntSS.g, markS_eq x a h0 (by omega), Option.bind_some, markSS_eq l (a + x.length) (by omega) (by omega), Option.bind_some, markR, List.flatten_cons, List.length_append]
    congr 2
    omega
theorem rdOf_set_ne {α : Type} (d : α) (l : List α) {x y : Int} (v : α) (h : x.toNat ≠ y.toNat) : rdOf d (l.set x.toNat v) y = rdOf d l y := by
  simp only [rdOf, List.getD_eq_getElem?_getD, List.getElem?_set_ne h]
theorem rdOf_set_eq {α : Type} (d : α) (l : List α) {x : Int} (v : α) (h0 : 0 ≤ x) (h : x < (l.length : Int)) : rdOf d (l.set x.toNat v) x = v := by
  simp only [rdOf, List.getD_eq_getElem?_getD, List.getElem?_set_self (show x.toNat < l.length by omega), Option.getD_some]
theorem scan1S_ne (C : List (List Int)) (L B : List Int) (gn : List Bool) (last own x : Int) (s : List Int × List Int) {y : Int} (h : x.toNat ≠ y.toNat) : rd (scan1S C L B gn last own x s).1 y = rd s.1 y ∧ rd (scan1S C L B gn last own x s).2 y = rd s.2 y := by
  unfold scan1S
  split
  · exact ⟨rfl, rfl⟩
  · split
    · exact ⟨rdOf_set_ne 0 _ _ h, rdOf_set_ne 0 _ _ h⟩
    · exact ⟨rfl, rfl⟩
theorem scan1F_low (C : List (List Int)) (L B : List Int) (gn : List Bool) (last own : Int) {y : Int} (hy : 0 ≤ y) : ∀ (j : Nat) (x : Int) (s : List Int × List Int), y < x → rd (scan1F C L B gn last own j x s).1 y = rd s.1 y
  | 0, _, _, _ => rfl
  | j + 1, x, s, h => by
    rw [scan1F, scan1F_low C L B gn last own hy j (x + 1) _ (by omega)]
    exact (scan1S_ne C L B gn last own x s (by omega)).1
theorem scanF_eq (C : List (List Int)) (L B : List Int) (gn : List Bool) (last own : Int) : ∀ (j : Nat) (x : Int) (ls fr : List Int) (b : Int), 0 ≤ x → b < x → scanF C L B gn last own j x (ls, fr, b) = ((scan1F C L B gn last own j x (ls, fr)).1, (scan1F C L B gn last own j x (ls, fr)).2, bestF (scan1F C L B gn last own j x (ls, fr)).1 gn j x b)
  | 0, _, _, _, _, _, _ => rfl
  | j + 1, x, ls, fr, b, h0, h1 => by
    have e1 : scanS C L B gn last own x (ls, fr, b) = ((scan1S C L B gn last own x (ls, fr)).1, (scan1S C L B gn last own x (ls, fr)).2, if rdOf false gn x = true then b else pickB (scan1S C L B gn last own x (ls, fr)).1 x b) := by
      unfold scanS scan1S
      by_cases g : rdOf false gn x = true
      · simp only [if_pos g]
      · simp only [if_neg g]
        split <;> rfl
    have e2 : ∀ F : List Int × List Int, F = scan1F C L B gn last own j (x + 1) (scan1S C L B gn last own x (ls, fr)) → (if rdOf false gn x = true then b else pickB (scan1S C L B gn last own x (ls, fr)).1 x b) = if rdOf false gn x = true then b else pickB F.1 x b := by
      intro F hF
      subst hF
      split
      · rfl
      · unfold pickB
        by_cases hb : b < 0
        · rw [if_pos hb, if_pos hb]
        · rw [if_neg hb, if_neg hb, scan1F_low C L B gn last own h0 j (x + 1) _ (by omega), scan1F_low C L B gn last own (by omega) j (x + 1) _ (by omega)]
    have hb' : (if rdOf false gn x = true then b else pickB (scan1S C L B gn last own x (ls, fr)).1 x b) < x + 1 := by
      split
      · omega
      · exact pickB_lt _ (by omega) (by omega)
    rw [scanF, e1, scanF_eq C L B gn last own j (x + 1) _ _ _ (by omega) hb']
    exact congrArg (fun q => ((scan1F C L B gn last own j (x + 1) (scan1S C L B gn last own x (ls, fr))).1, (scan1F C L B gn last own j (x + 1) (scan1S C L B gn last own x (ls, fr))).2, bestF (scan1F C L B gn last own j (x + 1) (scan1S C L B gn last own x (ls, fr))).1 gn j (x + 1) q)) (e2 _ rfl)
/-- The owners of the bins gone to. -/
def gonesF (gn : List Bool) (O : List Int) : Nat → Int → List Int
  | 0, _ => []
  | j + 1, x => if rdOf false gn x = true then rd O x :: gonesF gn O j (x + 1) else gonesF gn O j (x + 1)
theorem adjF_eq (by_ : Int) (gn : List Bool) (O : List Int) : ∀ (j : Nat) (x : Int) (L B ls : List Int), adjF by_ gn O j x (L, B, ls) = (addF by_ L (gonesF gn O j x), (binF by_ gn j x (ls, B)).2, (binF by_ gn j x (ls, B)).1)
  | 0, _, _, _, _ => rfl
  | j + 1, x, L, B, ls => by
    rw [adjF, gonesF, binF]
    by_cases g : rdOf false gn x = true
    · simp only [adjS, binS, if_pos g]
      rw [adjF_eq by_ gn O j (x + 1)]
      rfl
    · simp only [adjS, binS, if_neg g]
      rw [adjF_eq by_ gn O j (x + 1)]
theorem addF_perm (by_ : Int) (L : List Int) {a b : List Int} (h : a.Perm b) : addF by_ L a = addF by_ L b := by
  unfold addF
  refine h.foldl_eq' (fun x _ y _ z => ?_) L
  by_cases e : x.toNat = y.toNat
  · have e1 : ∀ l : List Int, rd l x = rd l y := fun l => by
      show rdOf 0 l x = rdOf 0 l y
      simp only [rdOf, e]
    rw [e1, e1, e]
  · have r1 : ∀ v, rd (z.set x.toNat v) y = rd z y := fun v => rdOf_set_ne 0 z v e
    have r2 : ∀ v, rd (z.set y.toNat v) x = rd z x := fun v => rdOf_set_ne 0 z v (Ne.symm e)
    rw [r1, r2, List.set_comm _ _ e]
theorem gonesF_set (gn : List Bool) (O : List Int) {b : Int} (hb0 : 0 ≤ b) (hb1 : b < (gn.length : Int)) (hg : ¬ rdOf false gn b = true) : ∀ (j : Nat) (x : Int), 0 ≤ x → (b < x → gonesF (gn.set b.toNat true) O j x = gonesF gn O j x) ∧ (x ≤ b → b < x + j → (gonesF (gn.set b.toNat true) O j x).Perm (rd O b :: gonesF gn O j x))
  | 0, x, _ => ⟨fun _ => rfl, fun h1 h2 => by omega⟩
  | j + 1, x, h0 => by
    have ih := gonesF_set gn O hb0 hb1 hg j (x + 1) (by omega)
    refine ⟨fun h => ?_, fun h1 h2 => ?_⟩
    · rw [gonesF, gonesF, rdOf_set_ne false gn true (show b.toNat ≠ x.toNat by omega), ih.1 (by omega)]
    · rw [gonesF, gonesF]
      by_cases e : x = b
      · subst e
        rw [rdOf_set_eq false gn true hb0 hb1, if_pos rfl, if_neg hg, ih.1 (by omega)]
      · rw [rdOf_set_ne false gn true (show b.toNat ≠ x.toNat by omega)]
        have p := ih.2 (by omega) (by omega)
        split
        · exact (p.cons _).trans (List.Perm.swap _ _ _)
        · exact p
theorem gonesF_len (gn : List Bool) (O : List Int) : ∀ (j : Nat) (x : Int), (gonesF gn O j x).length ≤ j
  | 0, _ => Nat.le_refl 0
  | j + 1, x => by
    have := gonesF_len gn O j (x + 1)
    rw [gonesF]
    split
    · simp only [List.length_cons]; omega
    · omega
theorem bestF_in (ls : List Int) (gn : List Bool) : ∀ (j : Nat) (x b : Int), bestF ls gn j x b = b ∨ (x ≤ bestF ls gn j x b ∧ bestF ls gn j x b < x + j ∧ ¬ rdOf false gn (bestF ls gn j x b) = true)
  | 0, _, _ => .inl rfl
  | j + 1, x, b => by
    rw [bestF]
    by_cases g : rdOf false gn x = true
    · rw [if_pos g]
      rcases bestF_in ls gn j (x + 1) b with h | ⟨h1, h2, h3⟩
      · exact .inl h
      · exact .inr ⟨by omega, by omega, h3⟩
    · rw [if_neg g]
      rcases bestF_in ls gn j (x + 1) (pickB ls x b) with h | ⟨h1, h2, h3⟩
      · rw [h]
        unfold pickB
        split
        · exact .inr ⟨by omega, by omega, g⟩
        · split
          · exact .inr ⟨by omega, by omega, g⟩
          · exact .inl rfl
      · exact .inr ⟨by omega, by omega, h3⟩
theorem bestF_ge (ls : List Int) (gn : List Bool) : ∀ (j : Nat) (x b : Int), 0 ≤ x → 0 ≤ b → 0 ≤ bestF ls gn j x b
  | 0, _, _, _, h => h
  | j + 1, x, b, h0, h => by
    rw [bestF]
    split
    · exact bestF_ge ls gn j (x + 1) b (by omega) h
    · exact bestF_ge ls gn j (x + 1) _ (by omega) (pickB_ge ls h0)
theorem bestF_free (ls : List Int) (gn : List Bool) {z : Int} (hz : ¬ rdOf false gn z = true) : ∀ (j : Nat) (x b : Int), 0 ≤ x → x ≤ z → z < x + j → 0 ≤ bestF ls gn j x b
  | 0, x, _, _, _, _ => by omega
  | j + 1, x, b, h0, h1, h2 => by
    rw [bestF]
    by_cases e : x = z
    · subst e
      rw [if_neg hz]
      exact bestF_ge ls gn j (x + 1) _ (by omega) (pickB_ge ls h0)
    · exact bestF_free ls gn hz j (x + 1) _ (by omega) (by omega) (by omega)
/-- One load's way: what holds at the start of a round. -/
structure Way (n : Nat) (O : List Int) (ld : Int) (fr : List Int) (gn : List Bool) (wy : List Int) (last : Int) (vis : List Int) : Prop where
  fl : fr.length = n
  gl : gn.length = n
  wn : 1 ≤ wy.length
  wl : rd wy ((wy.length : Int) - 1) = atV O ld last
  wp : wy.Perm (ld :: gonesF gn O n 0)
  gv : ∀ x, 0 ≤ x → x < (n : Int) → (rdOf false gn x = true ↔ x ∈ vis)
  vin : ∀ x ∈ vis, 0 ≤ x ∧ x < (n : Int) ∧ 0 ≤ rd O x
  lv : (last < 0 ∧ vis = []) ∨ ∃ r, vis = last :: r
  nd : vis.Nodup
  ff : ∀ x, 0 ≤ x → x < (n : Int) → x ∉ vis → rd fr x < 0 ∨ rd fr x ∈ vis
/-- From each bin back to one gone to before. -/
def Back (fr : List Int) : List Int → Prop
  | [] => True
  | b :: r => (rd fr b < 0 ∨ rd fr b ∈ r) ∧ Back fr r
theorem Back.keep {fr fr' : List Int} : ∀ {vis : List Int}, (∀ x ∈ vis, rd fr' x = rd fr x) → Back fr vis → Back fr' vis
  | [], _, _ => trivial
  | b :: r, h, hb => ⟨by rw [h b (by simp)]; exact hb.1, Back.keep (fun x hx => h x (by simp [hx])) hb.2⟩
theorem scan1F_fr (C : List (List Int)) (L B : List Int) (gn : List Bool) (last own : Int) (n : Nat) : ∀ (j : Nat) (x : Int) (s : List Int × List Int), 0 ≤ x → x + j = (n : Int) → s.2.length = n → (scan1F C L B gn last own j x s).2.length = n ∧ ∀ y, 0 ≤ y → y < (n : Int) → rd (scan1F C L B gn last own j x s).2 y = rd s.2 y ∨ (¬ rdOf false gn y = true ∧ rd (scan1F C L B gn last own j x s).2 y = last)
  | 0, _, s, _, _, h => ⟨h, fun _ _ _ => .inl rfl⟩
  | j + 1, x, s, h0, hj, h => by
    have hl : (scan1S C L B gn last own x s).2.length = n := by
      unfold scan1S
      split
      · exact h
      · split
        · simpa using h
        · exact h
    have ih := scan1F_fr C L B gn last own n j (x + 1) (scan1S C L B gn last own x s) (by omega) (by omega) hl
    refine ⟨ih.1, fun y hy0 hy1 => ?_⟩
    rw [scan1F]
    rcases ih.2 y hy0 hy1 with e | e
    · rw [e]
      by_cases q : x = y
      · subst q
        unfold scan1S
        by_cases g : rdOf false gn x = true
        · rw [if_pos g]; exact .inl rfl
        · rw [if_neg g]
          split
          · exact .inr ⟨g, rdOf_set_eq 0 _ _ h0 (by rw [h]; exact hy1)⟩
          · exact .inl rfl
      · exact .inl (scan1S_ne C L B gn last own x s (by omega)).2
    · exact .inr e
theorem mid_last (wy : List Int) (o : Int) : rd (wy ++ [o]) (((wy ++ [o]).length : Int) - 1) = o := by
  have e : ((((wy ++ [o]).length : Int) - 1)).toNat = wy.length := by simp only [List.length_append, List.length_singleton]; omega
  show rdOf 0 _ _ = _
  simp only [rdOf, e, List.getD_eq_getElem?_getD, List.getElem?_append_right (Nat.le_refl _), Nat.sub_self, List.getElem?_cons_zero, Option.getD_some]
/-- Both ways to place a load end, and with the same rows. -/
theorem outs_eq (C : List (List Int)) (O : List Int) (n : Nat) (ld : Int) (hO : O.length = n) (hld : 0 ≤ ld) {z : Int} (hz0 : 0 ≤ z) (hz1 : z < (n : Int)) (hz : rd O z < 0) : ∀ (j : Nat) (ls fr : List Int) (gn : List Bool) (wy : List Int) (last : Int) (L B vis : List Int), Way n O ld fr gn wy last vis → Back fr vis → n + 1 ≤ (gonesF gn O n 0).length + j →
    ∃ (L' B' fr' : List Int) (last' : Int) (vis' : List Int), outF C O n j ls fr gn wy last L B = some (L', B', fr', last') ∧ outS C O n ld (j + 1) ls fr gn last L B = some (L', B', fr', last') ∧ Back fr' (last' :: vis') ∧ (last' :: vis').Nodup ∧ (0 ≤ last' ∧ last' < (n : Int) ∧ rd O last' < 0) ∧ (∀ x ∈ vis', 0 ≤ x ∧ x < (n : Int) ∧ 0 ≤ rd O x)
  | 0, _, _, gn, _, _, _, _, _, _, _, hj => by
    have := gonesF_len gn O n 0
    omega
  | j + 1, ls, fr, gn, wy, last, L, B, vis, hw, hk, hj => by
    have ha : ¬ atV O ld last < 0 := by
      unfold atV
      rcases hw.lv with ⟨h1, _⟩ | ⟨r, h1⟩
      · rw [if_neg (by omega)]; omega
      · have h2 := hw.vin last (by rw [h1]; simp)
        rw [if_pos h2.1]; omega
    obtain ⟨a, ea⟩ : ∃ a, atV O ld last = a := ⟨_, rfl⟩
    obtain ⟨S, eS⟩ : ∃ S, scan1F C L B gn last a n 0 (ls, fr) = S := ⟨_, rfl⟩
    obtain ⟨b, eb⟩ : ∃ b, bestF S.1 gn n 0 (-1) = b := ⟨_, rfl⟩
    obtain ⟨y, ey⟩ : ∃ y, rd S.1 b = y := ⟨_, rfl⟩
    rw [ea] at ha
    have hzg : ¬ rdOf false gn z = true := fun h => by
      have := (hw.vin z ((hw.gv z hz0 hz1).1 h)).2.2
      omega
    have hb0 : 0 ≤ b := eb ▸ bestF_free S.1 gn hzg n 0 (-1) (by omega) hz0 (by omega)
    obtain ⟨hb1, hbg⟩ : b < (n : Int) ∧ ¬ rdOf false gn b = true := by
      rcases bestF_in S.1 gn n 0 (-1) with h | ⟨_, h2, h3⟩
      · omega
      · rw [eb] at h2 h3
        exact ⟨by omega, h3⟩
    have hbv : b ∉ vis := fun h => hbg ((hw.gv b hb0 hb1).2 h)
    have eF : scanF C L B gn last (rd wy ((wy.length : Int) - 1)) n 0 (ls, fr, -1) = (S.1, S.2, b) := by
      rw [hw.wl, ea, scanF_eq C L B gn last a n 0 ls fr (-1) (by omega) (by omega), eS, eb]
    have hfr := scan1F_fr C L B gn last a n n 0 (ls, fr) (by omega) (by omega) hw.fl
    rw [eS] at hfr
    obtain ⟨Q, eQ⟩ : ∃ Q, binF y gn n 0 (S.1, B) = Q := ⟨_, rfl⟩
    obtain ⟨L2, eL⟩ : ∃ L2, addF y L wy = L2 := ⟨_, rfl⟩
    have eA : adjF y gn O n 0 (L.set ld.toNat (wrap64 ((rd L ld) + y)), B, S.1) = (L2, Q.2, Q.1) := by
      rw [adjF_eq, eQ, ← eL, addF_perm y L hw.wp]
      rfl
    have r1 := outF_eq C O n j ls fr gn wy last L B eF ey eQ eL
    have r2 := outS_eq C O n ld (j + 1) ls fr gn last L B ea eS eb ey eA
    rw [if_neg ha, if_pos hb0] at r2
    rw [if_pos hb0] at r1
    have hold : ∀ x ∈ vis, rd S.2 x = rd fr x := fun x hx => by
      have h1 := hw.vin x hx
      rcases hfr.2 x h1.1 h1.2.1 with h | h
      · exact h
      · exact absurd ((hw.gv x h1.1 h1.2.1).2 hx) h.1
    have hnew : ∀ x, 0 ≤ x → x < (n : Int) → x ∉ vis → rd S.2 x < 0 ∨ rd S.2 x ∈ vis := fun x h0 h1 hx => by
      rcases hfr.2 x h0 h1 with h | h
      · rw [h]; exact hw.ff x h0 h1 hx
      · rw [h.2]
        rcases hw.lv with ⟨h2, _⟩ | ⟨r, h2⟩
        · exact .inl h2
        · exact .inr (by rw [h2]; simp)
    have hk' : Back S.2 (b :: vis) := ⟨hnew b hb0 hb1 hbv, Back.keep hold hk⟩
    have hnd : (b :: vis).Nodup := List.nodup_cons.2 ⟨hbv, hw.nd⟩
    have r3 : outS C O n ld (j + 1) Q.1 S.2 (gn.set b.toNat true) b L2 Q.2 = if rd O b < 0 then some (L2, Q.2, S.2, b) else outS C O n ld (j + 1) Q.1 S.2 (gn.set b.toNat true) b L2 Q.2 := by
      by_cases c : rd O b < 0
      · rw [if_pos c, outS, if_pos (by unfold atV; rw [if_pos hb0]; exact c)]
      · rw [if_neg c]
    by_cases c : rd O b < 0
    · rw [if_pos c] at r1 r3
      exact ⟨L2, Q.2, S.2, b, vis, r1, r2.trans r3, hk', hnd, ⟨hb0, hb1, c⟩, hw.vin⟩
    · rw [if_neg c] at r1
      have hp := (gonesF_set gn O hb0 (by rw [hw.gl]; exact hb1) hbg n 0 (by omega)).2 hb0 (by omega)
      have hw' : Way n O ld S.2 (gn.set b.toNat true) (wy ++ [rd O b]) b (b :: vis) := by
        refine ⟨hfr.1, by simpa using hw.gl, by simp, ?_, ?_, fun x h0 h1 => ?_, fun x hx => ?_, .inr ⟨vis, rfl⟩, hnd, fun x h0 h1 hx => ?_⟩
        · rw [mid_last]
          unfold atV
          rw [if_pos hb0]
        · exact (List.perm_append_singleton _ _).trans ((hw.wp.cons _).trans ((List.Perm.swap _ _ _).trans (hp.symm.cons _)))
        · by_cases e : b = x
          · subst e
            rw [rdOf_set_eq false gn true hb0 (by rw [hw.gl]; exact hb1)]
            simp
          · rw [rdOf_set_ne false gn true (show b.toNat ≠ x.toNat by omega), hw.gv x h0 h1, List.mem_cons]
            exact ⟨.inr, fun h => h.resolve_left (Ne.symm e)⟩
        · rcases List.mem_cons.1 hx with h | h
          · subst h
            exact ⟨hb0, hb1, by omega⟩
          · exact hw.vin x h
        · rw [List.mem_cons, not_or] at hx
          rcases hnew x h0 h1 hx.2 with h | h
          · exact .inl h
          · exact .inr (List.mem_cons_of_mem _ h)
      have hl := hp.length_eq
      obtain ⟨L', B', fr', last', vis', h1, h2, h3⟩ := outs_eq C O n ld hO hld hz0 hz1 hz j Q.1 S.2 (gn.set b.toNat true) (wy ++ [rd O b]) b L2 Q.2 (b :: vis) hw' hk' (by rw [hl]; simp only [List.length_cons]; omega)
      exact ⟨L', B', fr', last', vis', r1.trans h1, r2.trans h2, h3⟩
theorem rd_set_ne {l : List Int} {x y : Int} (v : Int) (h : x.toNat ≠ y.toNat) : rd (l.set x.toNat v) y = rd l y := rdOf_set_ne 0 l v h
theorem rd_set_eq {l : List Int} {x : Int} (v : Int) (h0 : 0 ≤ x) (h : x < (l.length : Int)) : rd (l.set x.toNat v) x = v := rdOf_set_eq 0 l v h0 h
theorem rd_get {l : List Int} {x : Int} (h : x.toNat < l.length) : rd l x = l[x.toNat] := by
  show rdOf 0 l x = _
  simp only [rdOf, List.getD_eq_getElem?_getD, List.getElem?_eq_getElem h, Option.getD_some]
/-- How many bins are owned. -/
def owned (O : List Int) : Nat := O.countP fun x => decide (0 ≤ x)
theorem owned_set {O : List Int} {b v : Int} (h0 : 0 ≤ b) (h1 : b < (O.length : Int)) (hv : 0 ≤ v) : owned (O.set b.toNat v) = if rd O b < 0 then owned O + 1 else owned O := by
  have hb : b.toNat < O.length := by omega
  unfold owned
  rw [List.countP_set hb, ← rd_get hb]
  have hp : 0 ≤ rd O b → 0 < O.countP fun x => decide (0 ≤ x) := fun h => List.countP_pos_iff.2 ⟨_, List.getElem_mem hb, by rw [← rd_get hb]; simpa using h⟩
  by_cases c : rd O b < 0
  · rw [if_pos c, if_neg (by simp; omega), if_pos (by simpa using hv)]; omega
  · have := hp (by omega)
    rw [if_neg c, if_pos (by simp; omega), if_pos (by simpa using hv)]; omega
/-- Each load up to ld is some bin's, but for bin b's. -/
def Held (n : Nat) (O : List Int) (ld b : Int) : Prop := ∀ i, 0 ≤ i → i < ld → ∃ x, 0 ≤ x ∧ x < (n : Int) ∧ x ≠ b ∧ rd O x = i
theorem back_ok (n : Nat) (ld : Int) (hld : 0 ≤ ld) (hldn : ld < (n : Int)) (fr : List Int) : ∀ (vis : List Int) (b : Int) (O : List Int) (j : Nat), O.length = n → Back fr vis → vis.Nodup → (∀ x ∈ vis, 0 ≤ x ∧ x < (n : Int) ∧ (x ≠ b → 0 ≤ rd O x)) → b ∈ vis → vis.length + 1 ≤ j → Held n O ld b → (∀ o ∈ O, o < (n : Int)) →
    ∃ O', backF fr ld j b O = some O' ∧ O'.length = n ∧ (∀ o ∈ O', o < (n : Int)) ∧ owned O' = (if rd O b < 0 then owned O + 1 else owned O) ∧ ∀ i, 0 ≤ i → i < ld + 1 → ∃ x, 0 ≤ x ∧ x < (n : Int) ∧ rd O' x = i
  | [], b, _, _, _, _, _, _, hb, _, _, _ => by simp at hb
  | v :: r, b, O, 0, _, _, _, _, _, hj, _, _ => by simp at hj
  | v :: r, b, O, j + 1, hO, hk, hnd, hin, hb, hj, hh, hlt => by
    have hnd' := List.nodup_cons.1 hnd
    by_cases e : v = b
    · subst e
      obtain ⟨hv0, hv1, _⟩ := hin v (by simp)
      rw [backF, if_neg (by omega)]
      rcases hk.1 with c | c
      · rw [if_neg (by omega)]
        have hset := owned_set (O := O) (v := ld) hv0 (by omega) hld
        cases j with
        | zero => simp at hj
        | succ j =>
          rw [backF, if_pos c]
          refine ⟨_, rfl, by simpa using hO, mem_set hlt hldn _, hset, fun i h0 h1 => ?_⟩
          by_cases q : i = ld
          · exact ⟨v, hv0, hv1, by rw [q]; exact rd_set_eq _ hv0 (by omega)⟩
          · obtain ⟨x, x0, x1, x2, x3⟩ := hh i h0 (by omega)
            exact ⟨x, x0, x1, by rw [rd_set_ne _ (by omega)]; exact x3⟩
      · obtain ⟨hf0, hf1, hf2⟩ := hin (rd fr v) (by simp [c])
        have hne : rd fr v ≠ v := fun h => hnd'.1 (h ▸ c)
        have hf3 := hf2 hne
        rw [if_pos hf0]
        have hset := owned_set (O := O) (v := rd O (rd fr v)) hv0 (by omega) hf3
        have hself : rd (O.set v.toNat (rd O (rd fr v))) (rd fr v) = rd O (rd fr v) := rd_set_ne _ (by omega)
        obtain ⟨O', h1, h2, h3, h4, h5⟩ := back_ok n ld hld hldn fr r (rd fr v) (O.set v.toNat (rd O (rd fr v))) j (by simpa using hO) hk.2 hnd'.2 (fun x hx => by
            have hx' := hin x (by simp [hx])
            have hxv : x ≠ v := fun h => hnd'.1 (h ▸ hx)
            refine ⟨hx'.1, hx'.2.1, fun _ => ?_⟩
            rw [rd_set_ne _ (by omega)]
            exact hx'.2.2 hxv) c (by simp only [List.length_cons] at hj; omega) (fun i h0 h1 => by
            obtain ⟨x, x0, x1, x2, x3⟩ := hh i h0 h1
            by_cases q : x = rd fr v
            · exact ⟨v, hv0, hv1, Ne.symm hne, by rw [rd_set_eq _ hv0 (by omega), ← q]; exact x3⟩
            · exact ⟨x, x0, x1, q, by rw [rd_set_ne _ (by omega)]; exact x3⟩) (mem_set hlt (by
            have := rd_in hlt hf0 (by omega)
            exact this) _)
        refine ⟨O', h1, h2, h3, ?_, h5⟩
        rw [h4, hself, if_neg (by omega), hset]
    · have hb' : b ∈ r := (List.mem_cons.1 hb).resolve_left (Ne.symm e)
      exact back_ok n ld hld hldn fr r b O (j + 1) hO hk.2 hnd'.2 (fun x hx => hin x (by simp [hx])) hb' (by simp only [List.length_cons] at hj; omega) hh hlt
theorem nodup_len : ∀ (n : Nat) {l : List Int}, l.Nodup → (∀ x ∈ l, 0 ≤ x ∧ x < (n : Int)) → l.length ≤ n
  | 0, [], _, _ => Nat.le_refl 0
  | 0, x :: _, _, h => by have := h x (by simp); omega
  | n + 1, l, hn, hl => by
    have ih := nodup_len n (hn.erase (n : Int)) (fun x hx => by
      have h := (hn.mem_erase_iff).1 hx
      have := hl x h.2
      exact ⟨this.1, by have := h.1; omega⟩)
    rw [List.length_erase] at ih
    split at ih <;> omega
/-- The rows after the first loads are placed. -/
structure Fits (n : Nat) (L B O : List Int) (ld : Int) : Prop where
  ll : L.length = n
  lb : B.length = n
  lo : O.length = n
  lt : ∀ o ∈ O, o < (n : Int)
  own : (owned O : Int) = ld
  all : ∀ i, 0 ≤ i → i < ld → ∃ x, 0 ≤ x ∧ x < (n : Int) ∧ rd O x = i
theorem way_start (n : Nat) (O : List Int) (ld : Int) : Way n O ld (List.replicate n (-1)) (List.replicate n false) [ld] (-1) [] := by
  have hg : ∀ x : Int, rdOf false (List.replicate n false) x = false := fun x => by
    simp only [rdOf, List.getD_eq_getElem?_getD, List.getElem?_replicate]
    split <;> rfl
  have hz : ∀ (j : Nat) (x : Int), gonesF (List.replicate n false) O j x = [] := by
    intro j
    induction j with
    | zero => intro x; rfl
    | succ j ih => intro x; rw [gonesF, hg, if_neg (by simp), ih]
  refine ⟨by simp, by simp, by simp, rfl, by rw [hz], fun x _ _ => by rw [hg]; simp, fun x hx => by simp at hx, .inl ⟨by omega, rfl⟩, List.nodup_nil, fun x h0 h1 _ => .inl ?_⟩
  show rdOf 0 _ _ < 0
  simp only [rdOf, List.getD_eq_getElem?_getD, List.getElem?_replicate]
  rw [if_pos (by omega)]
  decide
theorem free_of {n : Nat} {O : List Int} (hO : O.length = n) (h : owned O < n) : ∃ z : Int, 0 ≤ z ∧ z < (n : Int) ∧ rd O z < 0 := by
  have h1 : ¬ ∀ a ∈ O, decide (0 ≤ a) = true := fun h2 => by
    have := List.countP_eq_length.2 h2
    unfold owned at h
    omega
  have h2 : ∃ a ∈ O, ¬ decide (0 ≤ a) = true := by
    false_or_by_contra
    rename_i h2
    exact h1 (fun a ha => by
      false_or_by_contra
      rename_i h3
      exact h2 ⟨a, ha, h3⟩)
  obtain ⟨a, ha, h3⟩ := h2
  obtain ⟨i, hi, e⟩ := List.getElem_of_mem ha
  refine ⟨(i : Int), by omega, by omega, ?_⟩
  rw [rd_get (by simpa using hi)]
  simp only [Int.toNat_natCast]
  rw [e]
  simp at h3
  exact h3
/-- The program's way to place a load, and the reference's, in closed form. -/
def placeV (C : List (List Int)) (L B O : List Int) (ld : Int) : Option (List Int × List Int × List Int) :=
  (outF C O C.length (C.length + 1) (List.replicate C.length 1099511627776) (List.replicate C.length (-1)) (List.replicate C.length false) [ld] (-1) L B).bind fun s => (backF s.2.2.1 ld (C.length + 1) s.2.2.2 O).bind fun O' => some (s.1, s.2.1, O')
def seekV (C : List (List Int)) (L B O : List Int) (ld : Int) : Option (List Int × List Int × List Int) :=
  (outS C O C.length ld (C.length + 2) (List.replicate C.length 1099511627776) (List.replicate C.length (-1)) (List.replicate C.length false) (-1) L B).bind fun s => (backF s.2.2.1 ld (C.length + 1) s.2.2.2 O).bind fun O' => some (s.1, s.2.1, O')
theorem addF_len (y : Int) : ∀ (wy L : List Int), (addF y L wy).length = L.length
  | [], _ => rfl
  | i :: wy, L => by
    show (addF y (L.set i.toNat (wrap64 ((rd L i) + y))) wy).length = _
    rw [addF_len y wy, List.length_set]
theorem binF_len (y : Int) (gn : List Bool) : ∀ (j : Nat) (x : Int) (s : List Int × List Int), (binF y gn j x s).1.length = s.1.length ∧ (binF y gn j x s).2.length = s.2.length
  | 0, _, _ => ⟨rfl, rfl⟩
  | j + 1, x, s => by
    rw [binF]
    have ih := binF_len y gn j (x + 1) (binS y gn x s)
    rw [ih.1, ih.2]
    unfold binS
    split <;> simp
theorem outF_len (C : List (List Int)) (O : List Int) (n : Nat) : ∀ (j : Nat) (ls fr : List Int) (gn : List Bool) (wy : List Int) (last : Int) (L B : List Int) (s : List Int × List Int × List Int × Int), outF C O n j ls fr gn wy last L B = some s → s.1.length = L.length ∧ s.2.1.length = B.length
  | 0, _, _, _, _, _, _, _, _, h => by simp [outF] at h
  | j + 1, ls, fr, gn, wy, last, L, B, s, h => by
    rw [outF_eq C O n j ls fr gn wy last L B rfl rfl rfl rfl] at h
    split at h
    · split at h
      · simp only [Option.some.injEq] at h
        subst h
        exact ⟨addF_len _ _ _, (binF_len _ _ _ _ _).2⟩
      · have ih := outF_len C O n j _ _ _ _ _ _ _ s h
        rw [addF_len, (binF_len _ _ _ _ _).2] at ih
        exact ih
    · cases h
/-- One more load is placed, by both alike. -/
theorem place_ok (C : List (List Int)) (L B O : List Int) (ld : Int) (hld : 0 ≤ ld) (hldn : ld < (C.length : Int)) (h : Fits C.length L B O ld) :
    ∃ L' B' O', placeV C L B O ld = some (L', B', O') ∧ seekV C L B O ld = some (L', B', O') ∧ Fits C.length L' B' O' (ld + 1) := by
  obtain ⟨z, hz0, hz1, hz⟩ := free_of h.lo (by have := h.own; omega)
  obtain ⟨L', B', fr', last', vis', h1, h2, h3, h4, h5, h6⟩ := outs_eq C O C.length ld h.lo hld hz0 hz1 hz (C.length + 1) (List.replicate C.length 1099511627776) (List.replicate C.length (-1)) (List.replicate C.length false) [ld] (-1) L B [] (way_start C.length O ld) trivial (by omega)
  have hin : ∀ x ∈ last' :: vis', 0 ≤ x ∧ x < (C.length : Int) := fun x hx => by
    rcases List.mem_cons.1 hx with e | e
    · rw [e]; exact ⟨h5.1, h5.2.1⟩
    · exact ⟨(h6 x e).1, (h6 x e).2.1⟩
  obtain ⟨O', k1, k2, k3, k4, k5⟩ := back_ok C.length ld hld hldn fr' (last' :: vis') last' O (C.length + 1) h.lo h3 h4 (fun x hx => ⟨(hin x hx).1, (hin x hx).2, fun hne => (h6 x ((List.mem_cons.1 hx).resolve_left hne)).2.2⟩) (by simp) (by have := nodup_len C.length h4 hin; omega) (fun i i0 i1 => by
    obtain ⟨x, x0, x1, x2⟩ := h.all i i0 i1
    exact ⟨x, x0, x1, fun e => by rw [e] at x2; have := h5.2.2; omega, x2⟩) h.lt
  have hl := outF_len C O C.length _ _ _ _ _ _ _ _ _ h1
  refine ⟨L', B', O', by unfold placeV; rw [h1]; simp only [Option.bind_some]; rw [k1]; rfl, by unfold seekV; rw [h2]; simp only [Option.bind_some]; rw [k1]; rfl, ⟨hl.1.trans h.ll, hl.2.trans h.lb, k2, k3, ?_, k5⟩⟩
  rw [k4, if_pos h5.2.2]
  have := h.own
  omega
theorem place_eq (k : Nat) (C : List (List Int)) (L B O : List Int) (ld : Int) (g : GoodP C L B O ld) : impl_Prices_place.f k L B C O ld = placeV C L B O ld := by
  unfold impl_Prices_place.f
  rw [if_pos g]
  rfl
theorem seek_eq (C : List (List Int)) (L B O : List Int) (ld : Int) (g : GoodP C L B O ld) : seekF C L B O ld = seekV C L B O ld := by
  unfold seekF
  rw [if_pos g]
  rfl
theorem fits_start (n : Nat) : Fits n (List.replicate n 0) (List.replicate n 0) (List.replicate n (-1)) 0 := by
  refine ⟨by simp, by simp, by simp, fun o ho => ?_, ?_, fun i h0 h1 => by omega⟩
  · rw [(List.mem_replicate.1 ho).2]
    omega
  · unfold owned
    rw [List.countP_replicate]
    rfl
/-- All loads are placed, one after the other. -/
theorem ev_fit_l (C : List (List Int)) (hn : C.length ≤ 1000) (hrow : ∀ r ∈ C, r.length = C.length) : ∀ (j x : Nat) (L B O : List Int), x + j = C.length → Fits C.length L B O (x : Int) →
    ∃ L' B' O', Fits C.length L' B' O' (C.length : Int) ∧ seeksF C j (x : Int) (L, B, O) = some (L', B', O') ∧ ∀ r, Ev (fun k => (impl_matching.f k (C.length : Int) O').bind fun t => some (t, L', B', true)) r → Ev (fun k => impl_CheapestFit.l0 k C (C.length : Int) O (C.length : Int) (x : Int) L B) r
  | 0, x, L, B, O, hx, h => by
    have e : (x : Int) = (C.length : Int) := by omega
    refine ⟨L, B, O, e ▸ h, rfl, fun r hr => ?_⟩
    exact Ev.round (fun k => by simp only [impl_CheapestFit.l0]; rw [if_neg (by omega)]) hr
  | j + 1, x, L, B, O, hx, h => by
    have g : GoodP C L B O (x : Int) := ⟨⟨hn, h.ll, h.lb, h.lo⟩, ⟨by omega, by omega⟩, hrow, h.lt⟩
    obtain ⟨L1, B1, O1, p1, p2, p3⟩ := place_ok C L B O (x : Int) (by omega) (by omega) h
    have hx1 : (x : Int) + 1 = ((x + 1 : Nat) : Int) := by omega
    have hw : wrap64 ((x : Int) + 1) = ((x + 1 : Nat) : Int) := by unfold wrap64; omega
    rw [hx1] at p3
    obtain ⟨L2, B2, O2, q1, q2, q3⟩ := ev_fit_l C hn hrow j (x + 1) L1 B1 O1 (by omega) p3
    refine ⟨L2, B2, O2, q1, ?_, fun r hr => ?_⟩
    · rw [seeksF, seek_eq C L B O _ g, p2, hx1]
      exact q2
    · refine Ev.round (fun k => by simp only [impl_CheapestFit.l0]; rw [if_pos (by omega), place_eq k C L B O _ g, p1, hw]) ?_
      exact q3 r hr
/-- Each bin at its load's place. -/
def setAll (O : List Int) : Nat → Int → List Int → List Int
  | 0, _, o => o
  | j + 1, x, o => setAll O j (x + 1) (o.set (rd O x).toNat x)
theorem setAll_len (O : List Int) : ∀ (j : Nat) (x : Int) (o : List Int), (setAll O j x o).length = o.length
  | 0, _, _ => rfl
  | j + 1, x, o => by rw [setAll, setAll_len O j]; simp
theorem ext_rd {a b : List Int} {n : Nat} (ha : a.length = n) (hb : b.length = n) (h : ∀ i : Int, 0 ≤ i → i < (n : Int) → rd a i = rd b i) : a = b := by
  refine List.ext_getElem (by omega) (fun i h1 h2 => ?_)
  have e := h (i : Int) (by omega) (by omega)
  rw [rd_get (by simpa using h1), rd_get (by simpa using h2)] at e
  simpa using e
theorem setAll_same (O : List Int) (n : Nat) : ∀ (j : Nat) (x : Int) (a b : List Int), 0 ≤ x → a.length = n → b.length = n → (∀ y, x ≤ y → y < x + j → 0 ≤ rd O y ∧ rd O y < (n : Int)) → (∀ i : Int, 0 ≤ i → i < (n : Int) → rd a i = rd b i ∨ ∃ y, x ≤ y ∧ y < x + j ∧ rd O y = i) → setAll O j x a = setAll O j x b
  | 0, x, a, b, _, ha, hb, _, h => ext_rd ha hb (fun i h0 h1 => (h i h0 h1).resolve_right (fun ⟨y, y0, y1, _⟩ => by omega))
  | j + 1, x, a, b, h0, ha, hb, hr, h => by
    rw [setAll, setAll]
    have hx := hr x (by omega) (by omega)
    refine setAll_same O n j (x + 1) _ _ (by omega) (by simpa using ha) (by simpa using hb) (fun y y0 y1 => hr y (by omega) (by omega)) (fun i i0 i1 => ?_)
    by_cases e : i = rd O x
    · left
      rw [e, rd_set_eq _ hx.1 (by omega), rd_set_eq _ hx.1 (by omega)]
    · rw [rd_set_ne _ (by omega), rd_set_ne _ (by omega)]
      rcases h i i0 i1 with q | ⟨y, y0, y1, y2⟩
      · exact .inl q
      · by_cases f : y = x
        · exact absurd (by rw [← y2, f]) e
        · exact .inr ⟨y, by omega, by omega, y2⟩
theorem putsF_eq (O : List Int) (n : Nat) : ∀ (j : Nat) (x : Int) (o : List Int), (∀ y, x ≤ y → y < x + j → 0 ≤ rd O y ∧ rd O y < (n : Int)) → putsF O n j x o = some (setAll O j x o)
  | 0, _, _, _ => rfl
  | j + 1, x, o, h => by
    rw [putsF, if_pos (h x (by omega) (by omega)), putsF_eq O n j (x + 1) _ (fun y y0 y1 => h y (by omega) (by omega))]
    rfl
theorem ev_matching_l (O : List Int) (n : Nat) (hO : O.length = n) (hn : n ≤ 1000) (h : ∀ y, 0 ≤ y → y < (n : Int) → 0 ≤ rd O y ∧ rd O y < (n : Int)) : ∀ (j x : Nat) (o : List Int), x + j = n → o.length = n → Ev (fun k => impl_matching.l0 k o O (n : Int) (x : Int)) (setAll O j (x : Int) o)
  | 0, x, o, hx, ho => Ev.round (fun k => by simp only [impl_matching.l0]; rw [if_neg (by omega)]) (Ev.now o)
  | j + 1, x, o, hx, ho => by
    have hw : wrap64 ((x : Int) + 1) = ((x + 1 : Nat) : Int) := by unfold wrap64; omega
    have hh := h (x : Int) (by omega) (by omega)
    have ih := ev_matching_l O n hO hn h j (x + 1) (o.set (rd O (x : Int)).toNat (x : Int)) (by omega) (by simpa using ho)
    refine Ev.round (fun k => by simp only [impl_matching.l0]; rw [if_pos (by omega), if_pos (by omega), if_pos (by omega), if_pos hh.1, if_pos hh.1, if_pos (by omega), hw]) ?_
    have e : setAll O (j + 1) (x : Int) o = setAll O j ((x + 1 : Nat) : Int) (o.set (rd O (x : Int)).toNat (x : Int)) := by
      rw [setAll, show (x : Int) + 1 = ((x + 1 : Nat) : Int) by omega]
    rw [e]
    exact ih
theorem all_owned {n : Nat} {L B O : List Int} (h : Fits n L B O (n : Int)) : ∀ y, 0 ≤ y → y < (n : Int) → 0 ≤ rd O y ∧ rd O y < (n : Int) := fun y h0 h1 => by
  refine ⟨?_, rd_in h.lt h0 (by have := h.lo; omega)⟩
  have h2 := List.countP_eq_length.1 (show O.countP (fun x => decide (0 ≤ x)) = O.length by have := h.own; have := h.lo; unfold owned at *; omega)
  have h3 := rd_in (p := fun v => decide (0 ≤ v) = true) h2 h0 (by have := h.lo; omega)
  simpa using h3
theorem rep_eq (n : Nat) (h : 1 ≤ n ∧ n ≤ 1000) (z : Int) : slices_Repeat_int_int.f [z] (n : Int) = some (List.replicate n z) := by
  unfold slices_Repeat_int_int.f
  simp only []
  rw [if_pos (by omega), Int.toNat_natCast]
/-- The program's CheapestFit answers as the reference's. -/
theorem same_Cheapest (l : List (List Int)) (hn : l.length ≤ 9223372036854775807) (hx : ∀ x ∈ l, x.length ≤ 9223372036854775807) : ∃ (r1 r2 r3 : List Int) (r4 : Bool), (r1.length ≤ 10 ∧ r2.length ≤ 10 ∧ r3.length ≤ 10) ∧ Ev (fun k => spec_CheapestFit.f k l) (r1, r2, r3, r4) ∧ Ev (fun k => impl_CheapestFit.f k l) (r1, r2, r3, r4) := by
  by_cases c : costsB l = true
  · obtain ⟨⟨h1, h2⟩, h3⟩ := costsB_iff c
    obtain ⟨L', B', O', f, s, e⟩ := ev_fit_l l (by omega) (fun r hr => (h3 r hr).1) l.length 0 (List.replicate l.length 0) (List.replicate l.length 0) (List.replicate l.length (-1)) (by omega) (fits_start l.length)
    have ha := all_owned f
    have hs : setAll O' l.length 0 (List.replicate l.length (0 : Int)) = setAll O' l.length 0 (List.replicate l.length (-1)) := setAll_same O' l.length l.length 0 _ _ (by omega) (by simp) (by simp) (fun y y0 y1 => ha y y0 (by omega)) (fun i i0 i1 => by
      obtain ⟨y, y0, y1, y2⟩ := f.all i i0 i1
      exact .inr ⟨y, y0, by omega, y2⟩)
    have hf : fitF l = some (setAll O' l.length 0 (List.replicate l.length (-1)), L', B') := by
      unfold fitF
      rw [if_pos ⟨h1, by omega⟩]
      have s' : seeksF l l.length 0 (List.replicate l.length 0, List.replicate l.length 0, List.replicate l.length (-1)) = some (L', B', O') := s
      rw [s']
      simp only [Option.bind_some]
      rw [putsF_eq O' l.length l.length 0 _ (fun y y0 y1 => ha y y0 (by omega)), hs]
      rfl
    have hm : Ev (fun k => impl_matching.f k (l.length : Int) O') (setAll O' l.length 0 (List.replicate l.length (-1))) := by
      unfold impl_matching.f
      refine Ev.bindc (rep_eq l.length ⟨h1, by omega⟩ (-1)) ?_
      rw [f.lo]
      exact ev_matching_l O' l.length f.lo (by omega) ha l.length 0 _ (by omega) (by simp)
    refine ⟨setAll O' l.length 0 (List.replicate l.length (-1)), L', B', true, ⟨by rw [setAll_len]; simp; omega, by rw [f.ll]; omega, by rw [f.lb]; omega⟩, ?_, ?_⟩
    · unfold spec_CheapestFit.f
      refine Ev.bind (ev_GoodCosts l hn hx) (Ev.ite_pos c ?_)
      unfold spec_l9Fit.f
      rw [hf]
      exact Ev.now _
    · unfold impl_CheapestFit.f
      refine Ev.bindc (goodCosts_eq l) (Ev.ite_pos c (Ev.ite_pos (by omega) (Ev.ite_pos (by omega) (Ev.bindc (rep_eq l.length ⟨h1, by omega⟩ (-1)) ?_))))
      simp only [Int.toNat_natCast]
      exact e _ (Ev.bind hm (Ev.now _))
  · refine ⟨[], [], [], false, ⟨by simp, by simp, by simp⟩, ?_, ?_⟩
    · unfold spec_CheapestFit.f
      exact Ev.bind (ev_GoodCosts l hn hx) (Ev.ite_neg c (Ev.now _))
    · unfold impl_CheapestFit.f
      exact Ev.bindc (goodCosts_eq l) (Ev.ite_neg c (Ev.now _))
end Go.Proofs.Ytdlblaihleojmaa.Pure
