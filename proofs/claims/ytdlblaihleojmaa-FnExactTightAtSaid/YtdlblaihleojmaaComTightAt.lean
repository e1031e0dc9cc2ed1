import Derived.Test.YtdlblaihleojmaaGLTightAt0
import Derived.Test.YtdlblaihleojmaaGLTightAt1
import Derived.Test.YtdlblaihleojmaaGLTightAt2
import Derived.Test.YtdlblaihleojmaaGLTightAt3
import Derived.Test.YtdlblaihleojmaaGLTightAt4
import Derived.Test.YtdlblaihleojmaaGLTightAt5
namespace Go.Proofs.Ytdlblaihleojmaa.Pure
open Go.RowKit Go.Proofs.Ytdlblaihleojmaa.GLTightAt Go.Proofs.YtdlblaihleojmaaW.PrintWords Go.Proofs.YtdlblaihleojmaaW.PrintLast Go.Proofs.YtdlblaihleojmaaW.PrintMore Go.Proofs.YtdlblaihleojmaaW.PrintOwn
set_option linter.unusedVariables false
set_option linter.unusedSimpArgs false
theorem Ev.bindc {α β : Type} {g : Option α} {f : Nat → α → Option β} {a : α} {r : β} (h : g = some a) (k : Ev (fun n => f n a) r) : Ev (fun n => g.bind (f n)) r := by
  subst h
  exact k
/-- One round. -/
theorem Ev.round {α : Type} {g f : Nat → Option α} {r : α} (h : ∀ k, g (k + 1) = f k) (k : Ev f r) : Ev g r := Ev.step h k
theorem Ev.eqv {α : Type} {g f : Nat → Option α} {r : α} (h : ∀ k, g k = f k) (k : Ev f r) : Ev g r := Ev.congr h k
theorem Ev.cast {α : Type} {g : Nat → Option α} {r r' : α} (h : Ev g r) (e : r = r') : Ev g r' := e ▸ h
theorem Ev.ite_pos {α : Type} {c : Prop} [Decidable c] {g f : Nat → Option α} {r : α} (hc : c) (k : Ev g r) : Ev (fun n => if c then g n else f n) r := by
  refine Ev.eqv (fun n => ?_) k
  rw [if_pos hc]
theorem Ev.ite_neg {α : Type} {c : Prop} [Decidable c] {g f : Nat → Option α} {r : α} (hc : ¬ c) (k : Ev f r) : Ev (fun n => if c then g n else f n) r := by
  refine Ev.eqv (fun n => ?_) k
  rw [if_neg hc]
theorem getD_mid {α : Type} (d : α) (pre suf : List α) (x : α) : (pre ++ x :: suf).getD (pre.length : Int).toNat d = x := by
  rw [Int.toNat_natCast, List.getD_eq_getElem?_getD, List.getElem?_append_right (Nat.le_refl _), Nat.sub_self]
  rfl
theorem rd_mid (pre suf : List Int) (x : Int) : rd (pre ++ x :: suf) (pre.length : Int) = x := getD_mid 0 pre suf x
theorem rdOf_mid {α : Type} (d : α) (pre suf : List α) (x : α) : rdOf d (pre ++ x :: suf) (pre.length : Int) = x := getD_mid d pre suf x
theorem lt_mid {α : Type} (pre suf : List α) (x : α) : (pre.length : Int) < ((pre ++ x :: suf).length : Int) := by
  rw [List.length_append, List.length_cons]; omega
theorem up_mid {α : Type} (pre suf : List α) (x : α) (h : (pre ++ x :: suf).length ≤ 9223372036854775807) : wrap64 ((pre.length : Int) + 1) = ((pre ++ [x]).length : Int) := by
  rw [List.length_append, List.length_cons] at h
  rw [List.length_append, List.length_singleton]
  unfold wrap64
  omega
theorem snoc_mid {α : Type} (pre suf : List α) (x : α) : pre ++ x :: suf = (pre ++ [x]) ++ suf := by simp
theorem Ev.need {α β : Type} [DecidableEq α] {g : Nat → Option α} {a : α} {f : Nat → Option β} {r : β} (h : Ev g a) (k : Ev f r) : Ev (fun n => if g n = some a then f n else none) r := by
  obtain ⟨m1, h1⟩ := h
  obtain ⟨m2, h2⟩ := k
  exact ⟨max m1 m2, fun n hn => by show (if g n = some a then f n else none) = some r; rw [if_pos (h1 n (by omega))]; exact h2 n (by omega)⟩
/-- All numbers lie between two. -/
def allIn (l : List Int) (lo hi : Int) : Bool := l.all fun n => decide (lo ≤ n) && decide (n ≤ hi)
theorem allIn_iff {l : List Int} {lo hi : Int} : allIn l lo hi = true ↔ ∀ x ∈ l, lo ≤ x ∧ x ≤ hi := by
  unfold allIn
  rw [List.all_eq_true]
  simp
theorem ev_toIntS_l (l : List Int) (hn : l.length ≤ 35184372088832) : ∀ (suf pre : List Int), l = pre ++ suf → ∀ (z : List Int), z.length = suf.length → Ev (fun k => laws_toIntS.l0 k l (pre ++ z) (pre.length : Int)) l
  | [], pre, e, z, hz => by
    subst e
    have : z = [] := List.length_eq_zero_iff.1 hz
    subst this
    refine Ev.round (f := fun _ => some (pre ++ [])) (fun k => ?_) (Ev.now _)
    simp only [laws_toIntS.l0]
    rw [if_neg (by simp)]
  | x :: suf, pre, e, [], hz => by simp at hz
  | x :: suf, pre, e, y :: z, hz => by
    subst e
    have ih := ev_toIntS_l (pre ++ x :: suf) hn suf (pre ++ [x]) (snoc_mid _ _ _) z (by simpa using hz)
    refine Ev.round (fun k => ?_) ih
    simp only [laws_toIntS.l0]
    rw [if_pos (lt_mid _ _ _), if_pos (by omega), if_pos (lt_mid _ _ _), rd_mid, up_mid pre suf x (by omega)]
    congr 1
    rw [Int.toNat_natCast, List.set_append_right _ _ (Nat.le_refl _), Nat.sub_self, List.set_cons_zero]
    simp
theorem ev_toIntS (l : List Int) (hn : l.length ≤ 35184372088832) : Ev (fun k => laws_toIntS.f k l) l := by
  have h := ev_toIntS_l l hn l [] rfl (List.replicate l.length 0) (by simp)
  refine Ev.eqv (fun k => ?_) h
  unfold laws_toIntS.f
  rw [if_pos (by omega), Int.toNat_natCast, if_pos hn]
  rfl
theorem ev_eqIntS_l (a b : List Int) (hab : a.length = b.length) (hn : a.length ≤ 9223372036854775807) : ∀ (sa pa sb pb : List Int), a = pa ++ sa → b = pb ++ sb → pa.length = pb.length → Ev (fun k => laws_eqIntS.l0 k a b (pa.length : Int)) (decide (sa = sb))
  | [], pa, sb, pb, ea, eb, hp => by
    subst ea
    refine Ev.round (f := fun _ => some true) (fun k => ?_) (Ev.cast (Ev.now _) ?_)
    · simp only [laws_eqIntS.l0]
      rw [if_neg (by simp)]
    · have : sb = [] := by
        rw [eb] at hab
        simp at hab
        exact List.length_eq_zero_iff.1 (by omega)
      rw [this]; rfl
  | x :: sa, pa, [], pb, ea, eb, hp => by
    rw [ea, eb] at hab
    simp at hab
    omega
  | x :: sa, pa, y :: sb, pb, ea, eb, hp => by
    subst ea
    subst eb
    have h1 : ((pa.length : Nat) : Int) = (pb.length : Int) := by omega
    by_cases e : x = y
    · subst e
      have ih := ev_eqIntS_l (pa ++ x :: sa) (pb ++ x :: sb) hab hn sa (pa ++ [x]) sb (pb ++ [x]) (snoc_mid _ _ _) (snoc_mid _ _ _) (by simp [hp])
      refine Ev.round (fun k => ?_) (Ev.cast ih (by simp))
      simp only [laws_eqIntS.l0]
      rw [if_pos (lt_mid _ _ _), if_pos (by omega), if_pos (by rw [h1]; exact lt_mid _ _ _), rd_mid, h1, rd_mid, if_pos rfl, ← h1, up_mid _ _ _ hn]
    · refine Ev.round (f := fun _ => some false) (fun k => ?_) (Ev.cast (Ev.now _) (by simp [e]))
      simp only [laws_eqIntS.l0]
      rw [if_pos (lt_mid _ _ _), if_pos (by omega), if_pos (by rw [h1]; exact lt_mid _ _ _), rd_mid, h1, rd_mid, if_neg e]
theorem ev_eqIntS (a b : List Int) (hn : a.length ≤ 9223372036854775807) : Ev (fun k => laws_eqIntS.f k a b) (decide (a = b)) := by
  unfold laws_eqIntS.f
  by_cases h : a.length = b.length
  · exact Ev.ite_pos (by omega) (ev_eqIntS_l a b h hn a [] b [] rfl rfl rfl)
  · refine Ev.ite_neg (by omega) (Ev.cast (Ev.now _) ?_)
    rw [decide_eq_false]
    rintro rfl
    exact h rfl
theorem in_eq (a lo hi : Int) : spec_l1In.f a lo hi = some (decide (lo ≤ a) && decide (a ≤ hi)) := by
  unfold spec_l1In.f
  by_cases h : a ≥ lo
  · rw [if_pos h]; simp [h]
  · rw [if_neg h]; simp [h]
theorem ev_l1All_l (l : List Int) (lo hi : Int) (hn : l.length ≤ 9223372036854775807) : ∀ (suf pre : List Int), l = pre ++ suf → Ev (fun k => spec_l1All.l0 k lo hi l (l.length : Int) (pre.length : Int)) (allIn suf lo hi)
  | [], pre, e => by
    subst e
    refine Ev.round (f := fun _ => some true) (fun k => ?_) (Ev.now _)
    simp only [spec_l1All.l0]
    rw [if_neg (by simp)]
  | x :: suf, pre, e => by
    subst e
    by_cases c : (decide (lo ≤ x) && decide (x ≤ hi)) = true
    · have ih := ev_l1All_l (pre ++ x :: suf) lo hi hn suf (pre ++ [x]) (snoc_mid _ _ _)
      refine Ev.round (fun k => ?_) (Ev.cast ih (by unfold allIn; rw [List.all_cons, c, Bool.true_and]))
      simp only [spec_l1All.l0]
      rw [if_pos (lt_mid _ _ _), if_pos (by omega), if_pos (lt_mid _ _ _), rd_mid, in_eq, Option.bind_some, if_pos c, up_mid _ _ _ hn]
    · refine Ev.round (f := fun _ => some false) (fun k => ?_) (Ev.cast (Ev.now _) (by unfold allIn; rw [List.all_cons, Bool.eq_false_iff.2 c, Bool.false_and]))
      simp only [spec_l1All.l0]
      rw [if_pos (lt_mid _ _ _), if_pos (by omega), if_pos (lt_mid _ _ _), rd_mid, in_eq, Option.bind_some, if_neg c]
theorem ev_l1All (l : List Int) (lo hi : Int) (hn : l.length ≤ 9223372036854775807) : Ev (fun k => spec_l1All.f k l lo hi) (allIn l lo hi) := ev_l1All_l l lo hi hn l [] rfl
theorem allWithin_eq (l : List Int) (lo hi : Int) : impl_allWithin.f l lo hi = some (allIn l lo hi) := rfl
/-- n numbers from a on. -/
def upFrom (a : Int) : Nat → List Int
  | 0 => []
  | n + 1 => a :: upFrom (a + 1) n
theorem ev_markIntS_l : ∀ (suf pre : List Int) (a : Int), 0 ≤ a → a + suf.length ≤ 4611686018427387904 → pre.length + suf.length ≤ 4611686018427387904 → Ev (fun k => laws_markIntS.l0 k (pre ++ suf) a (pre.length : Int)) (a + suf.length, pre ++ upFrom a suf.length)
  | [], pre, a, h0, h1, h2 => by
    refine Ev.round (f := fun _ => some (a, pre ++ [])) (fun k => ?_) (Ev.cast (Ev.now _) (by simp [upFrom]))
    simp only [laws_markIntS.l0]
    rw [if_neg (by simp)]
  | x :: suf, pre, a, h0, h1, h2 => by
    rw [List.length_cons] at h1 h2
    have ih := ev_markIntS_l suf (pre ++ [a]) (a + 1) (by omega) (by omega) (by simp; omega)
    refine Ev.round (fun k => ?_) (Ev.cast ih (by rw [List.length_cons, upFrom]; simp; omega))
    simp only [laws_markIntS.l0]
    have hw : wrap64 (a + 1) = a + 1 := by unfold wrap64; omega
    have hw2 : wrap64 ((pre.length : Int) + 1) = ((pre ++ [a]).length : Int) := by unfold wrap64; simp; omega
    rw [if_pos (lt_mid _ _ _), if_pos (by omega), hw, hw2, Int.toNat_natCast, List.set_append_right _ _ (Nat.le_refl _), Nat.sub_self, List.set_cons_zero]
    simp
theorem ev_markIntS (l : List Int) (a : Int) (h0 : 0 ≤ a) (h1 : a + l.length ≤ 4611686018427387904) : Ev (fun k => laws_markIntS.f k l a) (a + l.length, upFrom a l.length) := ev_markIntS_l l [] a h0 h1 (by simp; omega)
theorem szIntS_eq (l : List Int) (a : Int) : laws_szIntS.f l a = some (if wrap64 (a - (l.length : Int)) < 0 then -1 else wrap64 (a - (l.length : Int))) := by
  unfold laws_szIntS.f
  split <;> rfl
theorem rdL_mid (pre suf : List (List Int)) (x : List Int) : rd_L1 (pre ++ x :: suf) (pre.length : Int) = x := getD_mid [] pre suf x
/-- What two texts answer alike. -/
def Same {α : Type} (g h : Nat → Option α) : Prop := ∃ r, Ev g r ∧ Ev h r
theorem Same.now {α : Type} (r : α) : Same (fun _ => some r) (fun _ => some r) := ⟨r, Ev.now _, Ev.now _⟩
theorem Same.round {α : Type} {g h g' h' : Nat → Option α} (a : ∀ k, g (k + 1) = g' k) (b : ∀ k, h (k + 1) = h' k) (s : Same g' h') : Same g h := by
  obtain ⟨r, p, q⟩ := s
  exact ⟨r, Ev.round a p, Ev.round b q⟩
theorem Same.eqv {α : Type} {g h g' h' : Nat → Option α} (a : ∀ k, g k = g' k) (b : ∀ k, h k = h' k) (s : Same g' h') : Same g h := by
  obtain ⟨r, p, q⟩ := s
  exact ⟨r, Ev.eqv a p, Ev.eqv b q⟩
theorem Same.bind {α β : Type} {g h : Nat → Option α} {f f' : Nat → α → Option β} {a : α} (p : Ev g a) (q : Ev h a) (s : Same (fun n => f n a) (fun n => f' n a)) : Same (fun n => (g n).bind (f n)) (fun n => (h n).bind (f' n)) := by
  obtain ⟨r, p', q'⟩ := s
  exact ⟨r, Ev.bind p p', Ev.bind q q'⟩
def szI (x : List Int) (a : Int) : Int := if wrap64 (a - (x.length : Int)) < 0 then -1 else wrap64 (a - (x.length : Int))
def szGo (a : Int) : List (List Int) → Int
  | [] => a
  | x :: l => if szI x a < 0 then -1 else szGo (szI x a) l
def szRows (l : List (List Int)) (a : Int) : Int := if wrap64 (a - (l.length : Int)) < 0 then -1 else szGo (wrap64 (a - (l.length : Int))) l
theorem ev_szIntSS_l (l : List (List Int)) (hn : l.length ≤ 9223372036854775807) : ∀ (suf pre : List (List Int)) (a : Int), l = pre ++ suf → Ev (fun k => laws_szIntSS.l0 k l a (pre.length : Int)) (szGo a suf)
  | [], pre, a, e => by
    subst e
    refine Ev.round (f := fun _ => some a) (fun k => ?_) (Ev.now _)
    simp only [laws_szIntSS.l0]
    rw [if_neg (by simp)]
  | x :: suf, pre, a, e => by
    subst e
    have hz : laws_szIntS.f x a = some (szI x a) := szIntS_eq x a
    by_cases c : szI x a < 0
    · refine Ev.round (f := fun _ => some (-1)) (fun k => ?_) (Ev.cast (Ev.now _) (by rw [szGo, if_pos c]))
      simp only [laws_szIntSS.l0]
      rw [if_pos (lt_mid _ _ _), if_pos (by omega), rdL_mid, hz, Option.bind_some, if_pos c]
    · have ih := ev_szIntSS_l (pre ++ x :: suf) hn suf (pre ++ [x]) (szI x a) (snoc_mid _ _ _)
      refine Ev.round (fun k => ?_) (Ev.cast ih (by rw [szGo, if_neg c]))
      simp only [laws_szIntSS.l0]
      rw [if_pos (lt_mid _ _ _), if_pos (by omega), rdL_mid, hz, Option.bind_some, if_neg c, up_mid _ _ _ hn]
theorem ev_szIntSS (l : List (List Int)) (a : Int) (hn : l.length ≤ 9223372036854775807) : Ev (fun k => laws_szIntSS.f k l a) (szRows l a) := by
  unfold laws_szIntSS.f szRows
  by_cases c : wrap64 (a - (l.length : Int)) < 0
  · rw [if_pos c]
    exact Ev.ite_pos c (Ev.now _)
  · rw [if_neg c]
    exact Ev.ite_neg c (ev_szIntSS_l l hn l [] _ rfl)
theorem szI_ok {x : List Int} {a : Int} (h0 : 0 ≤ a) (ha : a ≤ 4611686018427387904) (hx : x.length ≤ 9223372036854775807) (h : ¬ szI x a < 0) : (x.length : Int) ≤ a ∧ szI x a = a - x.length := by
  have hw : wrap64 (a - (x.length : Int)) = a - x.length := by unfold wrap64; omega
  unfold szI at h ⊢
  rw [hw] at h ⊢
  by_cases c : a - (x.length : Int) < 0
  · rw [if_pos c] at h; omega
  · rw [if_neg c]; omega
theorem szGo_ok : ∀ (l : List (List Int)) (a : Int), 0 ≤ a → a ≤ 4611686018427387904 → (∀ x ∈ l, x.length ≤ 9223372036854775807) → ¬ szGo a l < 0 → (∀ x ∈ l, (x.length : Int) ≤ a) ∧ szGo a l ≤ a
  | [], a, h0, ha, hx, h => ⟨by simp, Int.le_refl _⟩
  | x :: l, a, h0, ha, hx, h => by
    rw [szGo] at h ⊢
    by_cases c : szI x a < 0
    · rw [if_pos c] at h; omega
    · rw [if_neg c] at h ⊢
      obtain ⟨h1, h2⟩ := szI_ok h0 ha (hx x (by simp)) c
      obtain ⟨h3, h4⟩ := szGo_ok l (szI x a) (by omega) (by omega) (fun y hy => hx y (by simp [hy])) h
      refine ⟨fun y hy => ?_, by omega⟩
      rcases List.mem_cons.1 hy with rfl | hy
      · exact h1
      · have := h3 y hy; omega
theorem szRows_ok {l : List (List Int)} {a : Int} (h0 : 0 ≤ a) (ha : a ≤ 4611686018427387904) (hl : l.length ≤ 9223372036854775807) (hx : ∀ x ∈ l, x.length ≤ 9223372036854775807) (h : ¬ szRows l a < 0) : (l.length : Int) ≤ a ∧ (∀ x ∈ l, (x.length : Int) ≤ a) ∧ szRows l a ≤ a := by
  have hw : wrap64 (a - (l.length : Int)) = a - l.length := by unfold wrap64; omega
  unfold szRows at h ⊢
  rw [hw] at h ⊢
  by_cases c : a - (l.length : Int) < 0
  · rw [if_pos c] at h; omega
  · rw [if_neg c] at h ⊢
    obtain ⟨h3, h4⟩ := szGo_ok l _ (by omega) (by omega) hx h
    exact ⟨by omega, fun x hx => by have := h3 x hx; omega, by omega⟩
theorem szGo_flat : ∀ (l : List (List Int)) (a : Int), 0 ≤ a → a ≤ 4611686018427387904 → (∀ x ∈ l, x.length ≤ 9223372036854775807) → ¬ szGo a l < 0 → (l.flatten.length : Int) ≤ a
  | [], a, h0, _, _, _ => by simpa using h0
  | x :: l, a, h0, ha, hx, h => by
    rw [szGo] at h
    by_cases c : szI x a < 0
    · rw [if_pos c] at h; omega
    · rw [if_neg c] at h
      obtain ⟨h1, h2⟩ := szI_ok h0 ha (hx x (by simp)) c
      have h3 := szGo_flat l (szI x a) (by omega) (by omega) (fun y hy => hx y (by simp [hy])) h
      rw [List.flatten_cons, List.length_append]
      omega
theorem szRows_flat {l : List (List Int)} {a : Int} (h0 : 0 ≤ a) (ha : a ≤ 4611686018427387904) (hl : l.length ≤ 9223372036854775807) (hx : ∀ x ∈ l, x.length ≤ 9223372036854775807) (h : ¬ szRows l a < 0) : (l.flatten.length : Int) ≤ a := by
  have hw : wrap64 (a - (l.length : Int)) = a - l.length := by unfold wrap64; omega
  unfold szRows at h
  rw [hw] at h
  by_cases c : a - (l.length : Int) < 0
  · rw [if_pos c] at h; omega
  · rw [if_neg c] at h
    have := szGo_flat l _ (by omega) (by omega) hx h
    omega
theorem ev_toIntSS_l (l : List (List Int)) (hn : l.length ≤ 11728124029610) (hx : ∀ x ∈ l, x.length ≤ 35184372088832) : ∀ (suf pre : List (List Int)), l = pre ++ suf → ∀ (z : List (List Int)), z.length = suf.length → Ev (fun k => laws_toIntSS.l0 k l (pre ++ z) (pre.length : Int)) l
  | [], pre, e, z, hz => by
    subst e
    have : z = [] := List.length_eq_zero_iff.1 hz
    subst this
    refine Ev.round (f := fun _ => some (pre ++ [])) (fun k => ?_) (Ev.now _)
    simp only [laws_toIntSS.l0]
    rw [if_neg (by simp)]
  | x :: suf, pre, e, [], hz => by simp at hz
  | x :: suf, pre, e, y :: z, hz => by
    subst e
    have ih := ev_toIntSS_l (pre ++ x :: suf) hn hx suf (pre ++ [x]) (snoc_mid _ _ _) z (by simpa using hz)
    have ht := ev_toIntS x (hx x (by simp))
    refine Ev.round (fun k => ?_) (Ev.bind ht (f := fun k t => laws_toIntSS.l0 k (pre ++ x :: suf) (pre ++ [t] ++ z) (((pre ++ [x]).length : Nat) : Int)) ih)
    simp only [laws_toIntSS.l0]
    rw [if_pos (lt_mid _ _ _), if_pos (by omega), rdL_mid]
    congr 1
    funext t
    rw [if_pos (lt_mid _ _ _), up_mid pre suf x (by omega), Int.toNat_natCast, List.set_append_right _ _ (Nat.le_refl _), Nat.sub_self, List.set_cons_zero]
    simp
theorem ev_toIntSS (l : List (List Int)) (hn : l.length ≤ 11728124029610) (hx : ∀ x ∈ l, x.length ≤ 35184372088832) : Ev (fun k => laws_toIntSS.f k l) l := by
  have h := ev_toIntSS_l l hn hx l [] rfl (List.replicate l.length []) (by simp)
  refine Ev.eqv (fun k => ?_) h
  unfold laws_toIntSS.f
  rw [if_pos (by omega), Int.toNat_natCast, if_pos hn]
  rfl
theorem ev_eqIntSS_l (a b : List (List Int)) (hab : a.length = b.length) (hn : a.length ≤ 9223372036854775807) (hx : ∀ x ∈ a, x.length ≤ 9223372036854775807) : ∀ (sa pa sb pb : List (List Int)), a = pa ++ sa → b = pb ++ sb → pa.length = pb.length → Ev (fun k => laws_eqIntSS.l0 k a b (pa.length : Int)) (decide (sa = sb))
  | [], pa, sb, pb, ea, eb, hp => by
    subst ea
    refine Ev.round (f := fun _ => some true) (fun k => ?_) (Ev.cast (Ev.now _) ?_)
    · simp only [laws_eqIntSS.l0]
      rw [if_neg (by simp)]
    · have : sb = [] := by
        rw [eb] at hab
        simp at hab
        exact List.length_eq_zero_iff.1 (by omega)
      rw [this]; rfl
  | x :: sa, pa, [], pb, ea, eb, hp => by
    rw [ea, eb] at hab
    simp at hab
    omega
  | x :: sa, pa, y :: sb, pb, ea, eb, hp => by
    subst ea
    subst eb
    have h1 : ((pa.length : Nat) : Int) = (pb.length : Int) := by omega
    have h2 : (pa.length : Int) < ((pb ++ y :: sb).length : Int) := by rw [h1]; exact lt_mid _ _ _
    have h3 : rd_L1 (pb ++ y :: sb) (pa.length : Int) = y := by rw [h1]; exact rdL_mid _ _ _
    have he := ev_eqIntS x y (hx x (by simp))
    have ih := fun (e : x = y) => ev_eqIntSS_l (pa ++ x :: sa) (pb ++ y :: sb) hab hn hx sa (pa ++ [x]) sb (pb ++ [y]) (snoc_mid _ _ _) (snoc_mid _ _ _) (by simp [hp])
    refine Ev.round (fun k => ?_) (Ev.bind he (f := fun k t => if t = true then laws_eqIntSS.l0 k (pa ++ x :: sa) (pb ++ y :: sb) (((pa ++ [x]).length : Nat) : Int) else some false) ?_)
    · simp only [laws_eqIntSS.l0]
      rw [if_pos (lt_mid _ _ _), if_pos (by omega), if_pos h2, rdL_mid, h3, up_mid _ _ _ hn]
    · by_cases e : x = y
      · exact Ev.ite_pos (by simp [e]) (Ev.cast (ih e) (by simp [e]))
      · exact Ev.ite_neg (by simp [e]) (Ev.cast (Ev.now _) (by simp [e]))
theorem ev_eqIntSS (a b : List (List Int)) (hn : a.length ≤ 9223372036854775807) (hx : ∀ x ∈ a, x.length ≤ 9223372036854775807) : Ev (fun k => laws_eqIntSS.f k a b) (decide (a = b)) := by
  unfold laws_eqIntSS.f
  by_cases h : a.length = b.length
  · exact Ev.ite_pos (by omega) (ev_eqIntSS_l a b h hn hx a [] b [] rfl rfl rfl)
  · refine Ev.ite_neg (by omega) (Ev.cast (Ev.now _) ?_)
    rw [decide_eq_false]
    rintro rfl
    exact h rfl
/-- All rows are as long as n says, and lie from 0 up to hi. -/
def rowsB (n : Nat) (hi : Int) (l : List (List Int)) : Bool := l.all fun x => decide (x.length = n) && allIn x 0 hi
theorem rowsB_iff {n : Nat} {hi : Int} {l : List (List Int)} : rowsB n hi l = true ↔ ∀ x ∈ l, x.length = n ∧ ∀ v ∈ x, 0 ≤ v ∧ v ≤ hi := by
  unfold rowsB
  rw [List.all_eq_true]
  refine forall_congr' fun x => ?_
  rw [Bool.and_eq_true, decide_eq_true_eq, allIn_iff]
def costsB (l : List (List Int)) : Bool := (decide (1 ≤ (l.length : Int)) && decide ((l.length : Int) ≤ 10)) && rowsB l.length 100 l
theorem costsB_iff {l : List (List Int)} (h : costsB l = true) : (1 ≤ l.length ∧ l.length ≤ 10) ∧ ∀ x ∈ l, x.length = l.length ∧ ∀ v ∈ x, 0 ≤ v ∧ v ≤ 100 := by
  unfold costsB at h
  rw [Bool.and_eq_true, rowsB_iff] at h
  refine ⟨?_, h.2⟩
  have := h.1
  simp at this
  omega
theorem ev_GoodCosts_l (l : List (List Int)) (hn : l.length ≤ 9223372036854775807) (hx : ∀ x ∈ l, x.length ≤ 9223372036854775807) : ∀ (suf pre : List (List Int)), l = pre ++ suf →
    Ev (fun k => spec_GoodCosts.l0 k l l (l.length : Int) (pre.length : Int)) (rowsB l.length 100 suf && (decide (1 ≤ (l.length : Int)) && decide ((l.length : Int) ≤ 10)))
  | [], pre, e => by
    subst e
    refine Ev.round (f := fun _ => some (decide (1 ≤ ((pre ++ []).length : Int)) && decide (((pre ++ []).length : Int) ≤ 10))) (fun k => ?_) (Ev.cast (Ev.now _) (by simp [rowsB]))
    simp only [spec_GoodCosts.l0]
    rw [if_neg (by simp), in_eq, Option.bind_some]
  | x :: suf, pre, e => by
    subst e
    have ih := ev_GoodCosts_l (pre ++ x :: suf) hn hx suf (pre ++ [x]) (snoc_mid _ _ _)
    generalize hN : (pre ++ x :: suf).length = N at ih ⊢
    by_cases c : x.length = N
    · have ha := ev_l1All x 0 100 (hx x (by simp))
      refine Ev.round (fun k => ?_) (Ev.bind ha (f := fun k t => if t = true then spec_GoodCosts.l0 k (pre ++ x :: suf) (pre ++ x :: suf) (N : Int) (((pre ++ [x]).length : Nat) : Int) else some false) ?_)
      · simp only [spec_GoodCosts.l0]
        rw [if_pos (by rw [← hN]; exact lt_mid _ _ _), if_pos (by omega), if_pos (lt_mid _ _ _), rdL_mid, hN, if_pos (by omega), up_mid _ _ _ hn]
      · by_cases d : allIn x 0 100 = true
        · exact Ev.ite_pos d (Ev.cast ih (by unfold rowsB; rw [List.all_cons, d, decide_eq_true c]; rfl))
        · exact Ev.ite_neg d (Ev.cast (Ev.now _) (by unfold rowsB; rw [List.all_cons, Bool.eq_false_iff.2 d]; simp))
    · refine Ev.round (f := fun _ => some false) (fun k => ?_) (Ev.cast (Ev.now _) (by unfold rowsB; rw [List.all_cons, decide_eq_false c]; simp))
      simp only [spec_GoodCosts.l0]
      rw [if_pos (by rw [← hN]; exact lt_mid _ _ _), if_pos (by omega), if_pos (lt_mid _ _ _), rdL_mid, hN, if_neg (by omega)]
theorem ev_GoodCosts (l : List (List Int)) (hn : l.length ≤ 9223372036854775807) (hx : ∀ x ∈ l, x.length ≤ 9223372036854775807) : Ev (fun k => spec_GoodCosts.f k l) (costsB l) :=
  Ev.cast (ev_GoodCosts_l l hn hx l [] rfl) (Bool.and_comm _ _)
theorem goodCosts_eq (l : List (List Int)) : impl_GoodCosts.f l = some (costsB l) := rfl
def pricesB (a b : List Int) : Bool := decide (a.length = b.length) && (decide (a.length ≤ 10) && (allIn a (-100000) 100000 && allIn b (-100000) 100000))
theorem pricesB_iff {a b : List Int} (h : pricesB a b = true) : a.length = b.length ∧ a.length ≤ 10 ∧ (∀ x ∈ a, -100000 ≤ x ∧ x ≤ 100000) ∧ ∀ x ∈ b, -100000 ≤ x ∧ x ≤ 100000 := by
  unfold pricesB at h
  rw [Bool.and_eq_true, Bool.and_eq_true, Bool.and_eq_true, decide_eq_true_eq, decide_eq_true_eq, allIn_iff, allIn_iff] at h
  exact h
theorem ev_l9Prices (a b : List Int) (ha : a.length ≤ 9223372036854775807) (hb : b.length ≤ 9223372036854775807) : Ev (fun k => spec_l9Prices.f k a b) (pricesB a b) := by
  unfold spec_l9Prices.f pricesB
  by_cases h1 : a.length = b.length
  · refine Ev.ite_pos (by omega) ?_
    rw [decide_eq_true h1]
    by_cases h2 : a.length ≤ 10
    · refine Ev.ite_pos (by omega) ?_
      rw [decide_eq_true h2]
      refine Ev.bind (ev_l1All a _ _ ha) ?_
      by_cases h3 : allIn a (-100000) 100000 = true
      · refine Ev.ite_pos h3 (Ev.bind (ev_l1All b _ _ hb) (Ev.cast (Ev.now _) ?_))
        rw [h3]; rfl
      · refine Ev.ite_neg h3 (Ev.cast (Ev.now _) ?_)
        rw [Bool.eq_false_iff.2 h3]; rfl
    · refine Ev.ite_neg (by omega) (Ev.cast (Ev.now _) ?_)
      rw [decide_eq_false h2]; rfl
  · refine Ev.ite_neg (by omega) (Ev.cast (Ev.now _) ?_)
    rw [decide_eq_false h1]; rfl
theorem arePrices_eq (a b : List Int) : impl_arePrices.f a b = some (pricesB a b) := by
  unfold impl_arePrices.f pricesB
  by_cases h1 : a.length = b.length
  · rw [if_pos (by omega), decide_eq_true h1]
    by_cases h2 : a.length ≤ 10
    · rw [if_pos (by omega), decide_eq_true h2, allWithin_eq, Option.bind_some]
      by_cases h3 : allIn a (-100000) 100000 = true
      · rw [if_pos h3, allWithin_eq, h3]; rfl
      · rw [if_neg h3, Bool.eq_false_iff.2 h3]; rfl
    · rw [if_neg (by omega), decide_eq_false h2]; rfl
  · rw [if_neg (by omega), decide_eq_false h1]; rfl
theorem szPrices_eq (a b : List Int) (s : Int) (h0 : 0 ≤ s) (h9 : s ≤ 4611686018427387904) (ha : a.length ≤ 9223372036854775807) (hb : b.length ≤ 9223372036854775807) :
    ∃ z, laws_szPrices.f a b s = some z ∧ (z < 0 ∨ ((a.length : Int) + b.length ≤ s ∧ 0 ≤ z ∧ z ≤ s)) := by
  unfold laws_szPrices.f
  have hw : wrap64 (s - (a.length : Int)) = s - a.length := by unfold wrap64; omega
  rw [szIntS_eq, Option.bind_some, hw]
  by_cases c : s - (a.length : Int) < 0
  · rw [if_pos c, if_pos (by omega)]
    exact ⟨_, rfl, Or.inl (by omega)⟩
  · rw [if_neg c, if_neg c, szIntS_eq, Option.bind_some]
    have hw2 : wrap64 (s - (a.length : Int) - (b.length : Int)) = s - a.length - b.length := by unfold wrap64; omega
    rw [hw2]
    by_cases c2 : s - (a.length : Int) - (b.length : Int) < 0
    · rw [if_pos c2, if_pos (by omega)]
      exact ⟨_, rfl, Or.inl (by omega)⟩
    · rw [if_neg c2, if_neg c2]
      exact ⟨_, rfl, Or.inr ⟨by omega, by omega, by omega⟩⟩
theorem ev_toPrices (a b : List Int) (ha : a.length ≤ 35184372088832) (hb : b.length ≤ 35184372088832) : Ev (fun k => laws_toPrices.f k a b) (a, b) := by
  unfold laws_toPrices.f
  exact Ev.bind (ev_toIntS a ha) (Ev.bind (ev_toIntS b hb) (Ev.now _))
theorem ev_eqPrices (a b : List Int) (ha : a.length ≤ 9223372036854775807) (hb : b.length ≤ 9223372036854775807) : Ev (fun k => laws_eqPrices.f k a b a b) true := by
  unfold laws_eqPrices.f
  refine Ev.bind (ev_eqIntS a a ha) ?_
  refine Ev.ite_pos (by simp) (Ev.bind (ev_eqIntS b b hb) ?_)
  exact Ev.ite_pos (by simp) (Ev.now _)
def bothB (l : List (List Int)) (a b : List Int) : Bool := costsB l && (pricesB a b && ((a.length : Int) == (l.length : Int)))
theorem bothB_iff {l : List (List Int)} {a b : List Int} (h : bothB l a b = true) : costsB l = true ∧ pricesB a b = true ∧ a.length = l.length ∧ b.length = l.length := by
  unfold bothB at h
  rw [Bool.and_eq_true, Bool.and_eq_true, beq_iff_eq] at h
  obtain ⟨h1, h2, h3⟩ := h
  have := (pricesB_iff h2).1
  exact ⟨h1, h2, by omega, by omega⟩
theorem ev_l9Both (l : List (List Int)) (a b : List Int) (hn : l.length ≤ 9223372036854775807) (hx : ∀ x ∈ l, x.length ≤ 9223372036854775807) (ha : a.length ≤ 9223372036854775807) (hb : b.length ≤ 9223372036854775807) : Ev (fun k => spec_l9Both.f k l a b) (bothB l a b) := by
  unfold spec_l9Both.f bothB
  refine Ev.bind (ev_GoodCosts l hn hx) ?_
  by_cases c : costsB l = true
  · refine Ev.ite_pos c (Ev.bind (ev_l9Prices a b ha hb) ?_)
    rw [c]
    by_cases d : pricesB a b = true
    · rw [d]
      exact Ev.ite_pos rfl (Ev.now _)
    · rw [Bool.eq_false_iff.2 d]
      exact Ev.ite_neg (by simp) (Ev.now _)
  · rw [Bool.eq_false_iff.2 c]
    exact Ev.ite_neg (by simp) (Ev.now _)
theorem arePriced_eq (l : List (List Int)) (a b : List Int) : impl_arePriced.f l a b = some (bothB l a b) := by
  unfold impl_arePriced.f bothB
  rw [goodCosts_eq, Option.bind_some]
  by_cases c : costsB l = true
  · rw [if_pos c, arePrices_eq, Option.bind_some, c]
    by_cases d : pricesB a b = true
    · rw [if_pos d, d]; rfl
    · rw [if_neg d, Bool.eq_false_iff.2 d]; rfl
  · rw [if_neg c, Bool.eq_false_iff.2 c]; rfl
def markR : Int → List (List Int) → List (List Int)
  | _, [] => []
  | a, x :: l => upFrom a x.length :: markR (a + x.length) l
theorem markS_run : ∀ (suf pre : List Int) (a : Int) (k : Nat), 0 ≤ a → a + suf.length ≤ 4611686018427387904 → pre.length + suf.length ≤ 4611686018427387904 → suf.length < k → laws_markIntS.l0 k (pre ++ suf) a (pre.length : Int) = some (a + suf.length, pre ++ upFrom a suf.length)
  | [], pre, a, k, h0, h1, h2, hk => by
    obtain ⟨k, rfl⟩ : ∃ j, k = j + 1 := ⟨k - 1, by simp at hk; omega⟩
    simp only [laws_markIntS.l0]
    rw [if_neg (by simp)]
    simp [upFrom]
  | x :: suf, pre, a, k, h0, h1, h2, hk => by
    rw [List.length_cons] at h1 h2 hk
    obtain ⟨k, rfl⟩ : ∃ j, k = j + 1 := ⟨k - 1, by omega⟩
    have ih := markS_run suf (pre ++ [a]) (a + 1) k (by omega) (by omega) (by simp; omega) (by omega)
    simp only [laws_markIntS.l0]
    have hw : wrap64 (a + 1) = a + 1 := by unfold wrap64; omega
    have hw2 : wrap64 ((pre.length : Int) + 1) = ((pre ++ [a]).length : Int) := by unfold wrap64; simp; omega
    rw [if_pos (lt_mid _ _ _), if_pos (by omega), hw, hw2, Int.toNat_natCast, List.set_append_right _ _ (Nat.le_refl _), Nat.sub_self, List.set_cons_zero, show pre ++ a :: suf = (pre ++ [a]) ++ suf from by simp, ih, List.length_cons, upFrom]
    simp
    omega
theorem markS_eq (l : List Int) (a : Int) (h0 : 0 ≤ a) (h1 : a + l.length ≤ 4611686018427387904) : laws_markIntS.f (l.length + 1) l a = some (a + l.length, upFrom a l.length) := markS_run l [] a _ h0 h1 (by simp; omega) (Nat.lt_succ_self _)
theorem markSS_eq : ∀ (l : List (List Int)) (a : Int), 0 ≤ a → a + (l.flatten.length : Int) ≤ 4611686018427387904 → laws_markIntSS.g l a = some (a + l.flatten.length, markR a l)
  | [], a, _, _ => by simp [laws_markIntSS.g, markR]
  | x :: l, a, h0, h1 => by
    rw [List.flatten_cons, List.length_append] at h1
    rw [laws_markIntSS.g, markS_eq x a h0 (by omega), Option.bind_some, markSS_eq l (a + x.length) (by omega) (by omega), Option.bind_some, markR, List.flatten_cons, List.length_append]
    congr 2
    omega
def tightRow (s : Int) (q : List Int) : Nat → List Int → List Bool
  | _, [] => []
  | j, x :: l => (wrap64 (s + rd q (j : Int)) == x) :: tightRow s q (j + 1) l
theorem tightRow_len (s : Int) (q : List Int) : ∀ (l : List Int) (j : Nat), (tightRow s q j l).length = l.length
  | [], j => rfl
  | x :: l, j => by rw [tightRow, List.length_cons, List.length_cons, tightRow_len s q l]
def tightRows (p q : List Int) : Nat → List (List Int) → List (List Bool)
  | _, [] => []
  | i, x :: l => tightRow (rd p (i : Int)) q 0 x :: tightRows p q (i + 1) l
theorem tightRows_len (p q : List Int) : ∀ (l : List (List Int)) (i : Nat), (tightRows p q i l).length = l.length
  | [], i => rfl
  | x :: l, i => by rw [tightRows, List.length_cons, List.length_cons, tightRows_len p q l]
theorem tightRows_in (p q : List Int) (m : Nat) : ∀ (l : List (List Int)) (i : Nat), (∀ x ∈ l, x.length ≤ m) → ∀ y ∈ tightRows p q i l, y.length ≤ m
  | [], i, _, y, hy => by simp [tightRows] at hy
  | x :: l, i, h, y, hy => by
    rw [tightRows, List.mem_cons] at hy
    rcases hy with rfl | hy
    · rw [tightRow_len]; exact h x (by simp)
    · exact tightRows_in p q m l (i + 1) (fun z hz => h z (by simp [hz])) y hy
theorem spec_tight1 (b : List (List Int)) (N : Int) (i : Nat) (x4 : List (List Bool)) (p q : List Int) (x : List Int) (R : List (List Bool) × Bool) (hx : x.length ≤ q.length) (hn : q.length ≤ 10) (hi : i < p.length) (hp : p.length ≤ 10) (h4 : x4.length ≤ 10) : ∀ (suf pre : List Int) (acc : List Bool), x = pre ++ suf → acc.length = pre.length →
    Ev (fun k => spec_TightAt.l0 k (x4 ++ [acc ++ tightRow (rd p (i : Int)) q pre.length suf]) b N ((i + 1 : Nat) : Int) p q) R → Ev (fun k => spec_TightAt.l1 k x4 (i : Int) acc b N (i : Int) x (x.length : Int) (pre.length : Int) p q) R
  | [], pre, acc, e, ha, h => by
    subst e
    refine Ev.round (fun k => by simp only [spec_TightAt.l1]; rw [if_neg (by simp), show wrap64 ((i : Int) + 1) = ((i + 1 : Nat) : Int) by unfold wrap64; omega]) ?_
    exact Ev.ite_pos (by omega) (by simpa [tightRow] using h)
  | v :: suf, pre, acc, e, ha, h => by
    subst e
    have hl : pre.length + (suf.length + 1) ≤ q.length := by simpa using hx
    refine Ev.round (fun k => by simp only [spec_TightAt.l1]; rw [if_pos (lt_mid _ _ _), rd_mid, up_mid pre suf v (by simp; omega)]) ?_
    refine Ev.ite_pos (by omega) (Ev.ite_pos (lt_mid _ _ _) (Ev.ite_pos (by omega) (Ev.ite_pos (by omega) (Ev.ite_pos (by omega) (Ev.ite_pos (by omega) ?_)))))
    refine spec_tight1 b N i x4 p q (pre ++ v :: suf) R hx hn hi hp h4 suf (pre ++ [v]) (acc ++ [wrap64 (rd p (i : Int) + rd q (pre.length : Int)) == v]) (snoc_mid _ _ _) (by simp; omega) ?_
    rw [tightRow] at h
    simpa using h
theorem spec_tight0 (b : List (List Int)) (p q : List Int) (hb : b.length ≤ p.length) (hp : p.length ≤ 10) (hq : q.length ≤ 10) (hx : ∀ x ∈ b, x.length ≤ q.length) : ∀ (suf pre : List (List Int)) (acc : List (List Bool)), b = pre ++ suf → acc.length = pre.length → Ev (fun k => spec_TightAt.l0 k acc b (b.length : Int) (pre.length : Int) p q) (acc ++ tightRows p q pre.length suf, true)
  | [], pre, acc, e, ha => by
    subst e
    exact Ev.round (fun k => by simp only [spec_TightAt.l0]; rw [if_neg (by simp)]) (Ev.cast (Ev.now _) (by simp [tightRows]))
  | x :: suf, pre, acc, e, ha => by
    subst e
    have hl : pre.length + (suf.length + 1) ≤ p.length := by simpa using hb
    have ih := spec_tight0 (pre ++ x :: suf) p q hb hp hq hx suf (pre ++ [x]) (acc ++ [tightRow (rd p (pre.length : Int)) q 0 x]) (snoc_mid _ _ _) (by simp; omega)
    refine Ev.round (fun k => by simp only [spec_TightAt.l0]; rw [if_pos (lt_mid _ _ _), rdL_mid]) ?_
    refine Ev.ite_pos (by omega) (Ev.ite_pos (lt_mid _ _ _) ?_)
    refine spec_tight1 (pre ++ x :: suf) _ pre.length acc p q x _ (hx x (by simp)) hq (by omega) hp (by omega) x [] [] rfl rfl ?_
    have hz : ((pre.length + 1 : Nat) : Int) = ((pre ++ [x]).length : Int) := by simp
    rw [hz]
    exact Ev.cast ih (by rw [tightRows]; simp)
theorem impl_tight1 (b : List (List Int)) (N : Int) (i : Nat) (x4 : List (List Bool)) (p q : List Int) (x : List Int) (R : List (List Bool) × Bool) (hx : x.length ≤ q.length) (hn : q.length ≤ 10) (hi : i < p.length) (hp : p.length ≤ 10) (h4 : x4.length ≤ 10) : ∀ (suf pre : List Int) (acc : List Bool), x = pre ++ suf → acc.length = pre.length →
    Ev (fun k => impl_TightAt.l0 k (x4 ++ [acc ++ tightRow (rd p (i : Int)) q pre.length suf]) b N ((i + 1 : Nat) : Int) p q) R → Ev (fun k => impl_TightAt.l1 k x4 (i : Int) acc b N (i : Int) x (x.length : Int) (pre.length : Int) p q) R
  | [], pre, acc, e, ha, h => by
    subst e
    refine Ev.round (fun k => by simp only [impl_TightAt.l1]; rw [if_neg (by simp), show wrap64 ((i : Int) + 1) = ((i + 1 : Nat) : Int) by unfold wrap64; omega]) ?_
    exact Ev.ite_pos (by omega) (by simpa [tightRow] using h)
  | v :: suf, pre, acc, e, ha, h => by
    subst e
    have hl : pre.length + (suf.length + 1) ≤ q.length := by simpa using hx
    refine Ev.round (fun k => by simp only [impl_TightAt.l1]; rw [if_pos (lt_mid _ _ _), rd_mid, up_mid pre suf v (by simp; omega)]) ?_
    refine Ev.ite_pos (by omega) (Ev.ite_pos (lt_mid _ _ _) (Ev.ite_pos (by omega) (Ev.ite_pos (by omega) (Ev.ite_pos (by omega) (Ev.ite_pos (by omega) ?_)))))
    refine impl_tight1 b N i x4 p q (pre ++ v :: suf) R hx hn hi hp h4 suf (pre ++ [v]) (acc ++ [wrap64 (rd p (i : Int) + rd q (pre.length : Int)) == v]) (snoc_mid _ _ _) (by simp; omega) ?_
    rw [tightRow] at h
    simpa using h
theorem impl_tight0 (b : List (List Int)) (p q : List Int) (hb : b.length ≤ p.length) (hp : p.length ≤ 10) (hq : q.length ≤ 10) (hx : ∀ x ∈ b, x.length ≤ q.length) : ∀ (suf pre : List (List Int)) (acc : List (List Bool)), b = pre ++ suf → acc.length = pre.length → Ev (fun k => impl_TightAt.l0 k acc b (b.length : Int) (pre.length : Int) p q) (acc ++ tightRows p q pre.length suf, true)
  | [], pre, acc, e, ha => by
    subst e
    exact Ev.round (fun k => by simp only [impl_TightAt.l0]; rw [if_neg (by simp)]) (Ev.cast (Ev.now _) (by simp [tightRows]))
  | x :: suf, pre, acc, e, ha => by
    subst e
    have hl : pre.length + (suf.length + 1) ≤ p.length := by simpa using hb
    have ih := impl_tight0 (pre ++ x :: suf) p q hb hp hq hx suf (pre ++ [x]) (acc ++ [tightRow (rd p (pre.length : Int)) q 0 x]) (snoc_mid _ _ _) (by simp; omega)
    refine Ev.round (fun k => by simp only [impl_TightAt.l0]; rw [if_pos (lt_mid _ _ _), rdL_mid]) ?_
    refine Ev.ite_pos (by omega) (Ev.ite_pos (lt_mid _ _ _) ?_)
    refine impl_tight1 (pre ++ x :: suf) _ pre.length acc p q x _ (hx x (by simp)) hq (by omega) hp (by omega) x [] [] rfl rfl ?_
    have hz : ((pre.length + 1 : Nat) : Int) = ((pre ++ [x]).length : Int) := by simp
    rw [hz]
    exact Ev.cast ih (by rw [tightRows]; simp)
theorem same_Tight (C : List (List Int)) (p q : List Int) (hn : C.length ≤ 1048576) (hx : ∀ x ∈ C, x.length ≤ 9223372036854775807) (hp : p.length ≤ 1048576) (hq : q.length ≤ 1048576) : ∃ (r : List (List Bool)) (b : Bool), (r.length ≤ 10 ∧ ∀ x ∈ r, x.length ≤ 10) ∧ Ev (fun k => spec_TightAt.f k C p q) (r, b) ∧ Ev (fun k => impl_TightAt.f k C p q) (r, b) := by
  unfold spec_TightAt.f impl_TightAt.f
  have hs := ev_l9Both C p q (by omega) hx (by omega) (by omega)
  by_cases h : bothB C p q = true
  · obtain ⟨h1, h2, h3, h4⟩ := bothB_iff h
    obtain ⟨h5, h6⟩ := costsB_iff h1
    have hx1 : ∀ x ∈ C, x.length ≤ q.length := fun x hx => by have := (h6 x hx).1; omega
    refine ⟨tightRows p q 0 C, true, ⟨by rw [tightRows_len]; omega, tightRows_in p q 10 C 0 (fun x hx => by have := hx1 x hx; omega)⟩, Ev.bind hs (Ev.ite_pos h ?_), Ev.bindc (arePriced_eq C p q) (Ev.ite_pos h ?_)⟩
    · exact spec_tight0 C p q (by omega) (by omega) (by omega) hx1 C [] [] rfl rfl
    · exact impl_tight0 C p q (by omega) (by omega) (by omega) hx1 C [] [] rfl rfl
  · exact ⟨[], false, ⟨by simp, by simp⟩, Ev.bind hs (Ev.ite_neg h (Ev.now _)), Ev.bindc (arePriced_eq C p q) (Ev.ite_neg h (Ev.now _))⟩
theorem ev_eqB_l (l : List Bool) (hn : l.length ≤ 9223372036854775807) : ∀ (suf pre : List Bool), l = pre ++ suf → Ev (fun k => laws_eqBoolS.l0 k l l (pre.length : Int)) true
  | [], pre, e => by
    subst e
    exact Ev.round (fun k => by simp only [laws_eqBoolS.l0]; rw [if_neg (by simp)]) (Ev.now _)
  | x :: suf, pre, e => by
    subst e
    have ih := ev_eqB_l (pre ++ x :: suf) hn suf (pre ++ [x]) (snoc_mid _ _ _)
    refine Ev.round (fun k => by simp only [laws_eqBoolS.l0]; rw [if_pos (lt_mid _ _ _), rdOf_mid, up_mid pre suf x hn]) ?_
    exact Ev.ite_pos (by omega) (Ev.ite_pos (lt_mid _ _ _) (Ev.ite_neg (by simp) ih))
theorem ev_eqB (l : List Bool) (hn : l.length ≤ 9223372036854775807) : Ev (fun k => laws_eqBoolS.f k l l) true := by
  unfold laws_eqBoolS.f
  exact Ev.ite_pos rfl (ev_eqB_l l hn l [] rfl)
theorem ev_eqBB_l (l : List (List Bool)) (hn : l.length ≤ 9223372036854775807) (hx : ∀ x ∈ l, x.length ≤ 9223372036854775807) : ∀ (suf pre : List (List Bool)), l = pre ++ suf → Ev (fun k => laws_eqBoolSS.l0 k l l (pre.length : Int)) true
  | [], pre, e => by
    subst e
    exact Ev.round (fun k => by simp only [laws_eqBoolSS.l0]; rw [if_neg (by simp)]) (Ev.now _)
  | x :: suf, pre, e => by
    subst e
    have ih := ev_eqBB_l (pre ++ x :: suf) hn hx suf (pre ++ [x]) (snoc_mid _ _ _)
    have h1 := ev_eqB x (hx x (by simp))
    refine Ev.round (fun k => by simp only [laws_eqBoolSS.l0]; rw [if_pos (lt_mid _ _ _), show rd_L3 (pre ++ x :: suf) (pre.length : Int) = x from getD_mid [] pre suf x, up_mid pre suf x hn]) ?_
    refine Ev.ite_pos (by omega) (Ev.ite_pos (lt_mid _ _ _) (Ev.bind h1 (Ev.ite_pos rfl ih)))
theorem ev_eqBB (l : List (List Bool)) (hn : l.length ≤ 9223372036854775807) (hx : ∀ x ∈ l, x.length ≤ 9223372036854775807) : Ev (fun k => laws_eqBoolSS.f k l l) true := by
  unfold laws_eqBoolSS.f
  exact Ev.ite_pos rfl (ev_eqBB_l l hn hx l [] rfl)
def upB (a : Int) : Nat → List Bool
  | 0 => []
  | n + 1 => (Int.tmod a 3 == 0) :: upB (a + 1) n
def markRB : Int → List (List Bool) → List (List Bool)
  | _, [] => []
  | a, x :: l => upB a x.length :: markRB (a + x.length) l
theorem markB_run : ∀ (suf pre : List Bool) (a : Int) (k : Nat), 0 ≤ a → a + suf.length ≤ 4611686018427387904 → pre.length + suf.length ≤ 4611686018427387904 → suf.length < k → laws_markBoolS.l0 k (pre ++ suf) a (pre.length : Int) = some (a + suf.length, pre ++ upB a suf.length)
  | [], pre, a, k, h0, h1, h2, hk => by
    obtain ⟨k, rfl⟩ : ∃ j, k = j + 1 := ⟨k - 1, by simp at hk; omega⟩
    simp only [laws_markBoolS.l0]
    rw [if_neg (by simp)]
    simp [upB]
  | x :: suf, pre, a, k, h0, h1, h2, hk => by
    rw [List.length_cons] at h1 h2 hk
    obtain ⟨k, rfl⟩ : ∃ j, k = j + 1 := ⟨k - 1, by omega⟩
    have ih := markB_run suf (pre ++ [Int.tmod a 3 == 0]) (a + 1) k (by omega) (by omega) (by simp; omega) (by omega)
    simp only [laws_markBoolS.l0]
    have hw : wrap64 (a + 1) = a + 1 := by unfold wrap64; omega
    have hw2 : wrap64 ((pre.length : Int) + 1) = ((pre ++ [Int.tmod a 3 == 0]).length : Int) := by unfold wrap64; simp; omega
    rw [if_pos (lt_mid _ _ _), if_pos (by omega), hw, hw2, Int.toNat_natCast, List.set_append_right _ _ (Nat.le_refl _), Nat.sub_self, List.set_cons_zero, show pre ++ (Int.tmod a 3 == 0) :: suf = (pre ++ [Int.tmod a 3 == 0]) ++ suf from by simp, ih, List.length_cons, upB]
    simp
    omega
theorem markB_eq (l : List Bool) (a : Int) (h0 : 0 ≤ a) (h1 : a + l.length ≤ 4611686018427387904) : laws_markBoolS.f (l.length + 1) l a = some (a + l.length, upB a l.length) := markB_run l [] a _ h0 h1 (by simp; omega) (Nat.lt_succ_self _)
theorem markBB_eq : ∀ (l : List (List Bool)) (a : Int), 0 ≤ a → a + (l.flatten.length : Int) ≤ 4611686018427387904 → laws_markBoolSS.g l a = some (a + l.flatten.length, markRB a l)
  | [], a, _, _ => by simp [laws_markBoolSS.g, markRB]
  | x :: l, a, h0, h1 => by
    rw [List.flatten_cons, List.length_append] at h1
    rw [laws_markBoolSS.g, markB_eq x a h0 (by omega), Option.bind_some, markBB_eq l (a + x.length) (by omega) (by omega), Option.bind_some, markRB, List.flatten_cons, List.length_append]
    congr 2
    omega
theorem ev_heldB_l : ∀ (n : Nat) (pre : List Bool) (a : Int), 0 ≤ a → a + n ≤ 4611686018427387904 → pre.length + n ≤ 4611686018427387904 → Ev (fun k => laws_heldBoolS.l0 k (pre ++ upB a n) a (pre.length : Int)) (a + n)
  | 0, pre, a, h0, h1, h2 => by
    refine Ev.round (f := fun _ => some a) (fun k => ?_) (Ev.cast (Ev.now _) (by simp))
    simp only [laws_heldBoolS.l0]
    rw [if_neg (by simp [upB])]
  | n + 1, pre, a, h0, h1, h2 => by
    have ih := ev_heldB_l n (pre ++ [Int.tmod a 3 == 0]) (a + 1) (by omega) (by omega) (by simp; omega)
    refine Ev.round (fun k => ?_) (Ev.cast ih (by omega))
    rw [upB]
    simp only [laws_heldBoolS.l0]
    have hw : wrap64 (a + 1) = a + 1 := by unfold wrap64; omega
    have hw2 : wrap64 ((pre.length : Int) + 1) = ((pre ++ [Int.tmod a 3 == 0]).length : Int) := by unfold wrap64; simp; omega
    rw [if_pos (lt_mid _ _ _), if_pos (by omega), rdOf_mid, if_neg (by simp), hw, hw2]
    simp
theorem ev_heldB (a : Int) (n : Nat) (h0 : 0 ≤ a) (h1 : a + n ≤ 4611686018427387904) : Ev (fun k => laws_heldBoolS.f k (upB a n) a) (a + n) := ev_heldB_l n [] a h0 h1 (by simp; omega)
theorem ev_heldBB_l : ∀ (suf pre : List (List Bool)) (a : Int), 0 ≤ a → a + (suf.flatten.length : Int) ≤ 4611686018427387904 → pre.length + suf.length ≤ 4611686018427387904 → Ev (fun k => laws_heldBoolSS.l0 k (pre ++ markRB a suf) a (pre.length : Int)) (a + suf.flatten.length)
  | [], pre, a, h0, h1, h2 => by
    refine Ev.round (f := fun _ => some a) (fun k => ?_) (Ev.cast (Ev.now _) (by simp))
    simp only [laws_heldBoolSS.l0]
    rw [if_neg (by simp [markRB])]
  | x :: suf, pre, a, h0, h1, h2 => by
    rw [List.length_cons] at h2
    rw [List.flatten_cons, List.length_append] at h1
    have ih := ev_heldBB_l suf (pre ++ [upB a x.length]) (a + x.length) (by omega) (by omega) (by simp; omega)
    rw [markRB]
    refine Ev.round (fun k => by simp only [laws_heldBoolSS.l0]; rw [if_pos (lt_mid _ _ _), show rd_L3 (pre ++ upB a x.length :: markRB (a + x.length) suf) (pre.length : Int) = upB a x.length from getD_mid [] _ _ _, show wrap64 ((pre.length : Int) + 1) = ((pre ++ [upB a x.length]).length : Int) by unfold wrap64; simp; omega]) ?_
    refine Ev.ite_pos (by omega) (Ev.bind (ev_heldB a x.length h0 (by omega)) (Ev.ite_neg (by omega) ?_))
    simp only [← snoc_mid] at ih
    exact Ev.cast ih (by rw [List.flatten_cons]; have := @List.length_append Bool x suf.flatten; omega)
theorem ev_heldBB (l : List (List Bool)) (a : Int) (h0 : 0 ≤ a) (h1 : a + (l.flatten.length : Int) ≤ 4611686018427387904) (h2 : l.length ≤ 4611686018427387904) : Ev (fun k => laws_heldBoolSS.f k (markRB a l) a) (a + l.flatten.length) := ev_heldBB_l l [] a h0 h1 (by simpa using h2)
theorem flatB_le {l : List (List Bool)} {m : Nat} : ∀ (_ : ∀ x ∈ l, x.length ≤ m), l.flatten.length ≤ l.length * m := by
  induction l with
  | nil => intro _; simp
  | cons x l ih =>
    intro h
    have h1 := ih (fun y hy => h y (by simp [hy]))
    have h2 := h x (by simp)
    rw [List.flatten_cons, List.length_append, List.length_cons, Nat.succ_mul]
    omega
theorem ev_markPrices (p q : List Int) (a : Int) (h0 : 0 ≤ a) (h1 : a ≤ 1000000000) (hp : p.length ≤ 1048576) (hq : q.length ≤ 1048576) : ∃ x y, Ev (fun k => laws_markPrices.f k p q a) (a + p.length + q.length, x, y) := by
  unfold laws_markPrices.f
  exact ⟨_, _, Ev.bind (ev_markIntS p a (by omega) (by omega)) (Ev.bind (ev_markIntS q (a + p.length) (by omega) (by omega)) (Ev.now _))⟩
end Go.Proofs.Ytdlblaihleojmaa.Pure
