import Derived.Test.YtdlblaihleojmaaGLFitCost0
import Derived.Test.YtdlblaihleojmaaGLFitCost1
import Derived.Test.YtdlblaihleojmaaGLFitCost2
import Derived.Test.YtdlblaihleojmaaGLFitCost3
namespace Go.Proofs.Ytdlblaihleojmaa.Pure
open Go.RowKit Go.Proofs.Ytdlblaihleojmaa.GLFitCost Go.Proofs.YtdlblaihleojmaaW.PrintWords Go.Proofs.YtdlblaihleojmaaW.PrintLast Go.Proofs.YtdlblaihleojmaaW.PrintMore Go.Proofs.YtdlblaihleojmaaW.PrintOwn
set_option linter.unusedVariables false
set_option linter.unusedSimpArgs false
/-! rounds: what a loop over a list answers -/
theorem Ev.det {α : Type} {g : Nat → Option α} {r : α} (h : ∀ k, g k = some r) : Ev g r := ⟨0, fun k _ => h k⟩
theorem Ev.bind' {α β : Type} {g : Nat → Option α} {f : Nat → α → Option β} {a : α} {r : β} (h : Ev g a) (k : Ev (fun n => f n a) r) : Ev (fun n => (g n).bind (f n)) r := Ev.bind h k
theorem Ev.bindc {α β : Type} {g : Option α} {f : Nat → α → Option β} {a : α} {r : β} (h : g = some a) (k : Ev (fun n => f n a) r) : Ev (fun n => g.bind (f n)) r := by
  subst h
  exact k
/-- One round. -/
theorem Ev.round {α : Type} {g f : Nat → Option α} {r : α} (h : ∀ k, g (k + 1) = f k) (k : Ev f r) : Ev g r := Ev.step h k
theorem Ev.eqv {α : Type} {g f : Nat → Option α} {r : α} (h : ∀ k, g k = f k) (k : Ev f r) : Ev g r := Ev.congr h k
theorem Ev.cast {α : Type} {g : Nat → Option α} {r r' : α} (h : Ev g r) (e : r = r') : Ev g r' := e ▸ h
theorem Ev.ite_pos {α : Type} {c : Prop} [Decidable c] {g f : Nat → Option α} {r : α} (hc : c) (k : Ev g r) : Ev (fun n => if c then g n else f n) r := by
  refine Ev.eqv (fun n => ?_) k
  rw [if_pos hc]
theorem Ev.ite_neg {α : Type} {c : Prop} [Decidable c] {g f : Nat → Option α} {r : α} (hc : ¬ c) (k : Ev f r) : Ev (fun n => if c then g n else f n) r := by
  refine Ev.eqv (fun n => ?_) k
  rw [if_neg hc]
theorem getD_mid {α : Type} (d : α) (pre suf : List α) (x : α) : (pre ++ x :: suf).getD (pre.length : Int).toNat d = x := by
  rw [Int.toNat_natCast, List.getD_eq_getElem?_getD, List.getElem?_append_right (Nat.le_refl _), Nat.sub_self]
  rfl
theorem rd_mid (pre suf : List Int) (x : Int) : rd (pre ++ x :: suf) (pre.length : Int) = x := getD_mid 0 pre suf x
theorem rdOf_mid {α : Type} (d : α) (pre suf : List α) (x : α) : rdOf d (pre ++ x :: suf) (pre.length : Int) = x := getD_mid d pre suf x
theorem lt_mid {α : Type} (pre suf : List α) (x : α) : (pre.length : Int) < ((pre ++ x :: suf).length : Int) := by
  rw [List.length_append, List.length_cons]; omega
theorem up_mid {α : Type} (pre suf : List α) (x : α) (h : (pre ++ x :: suf).length ≤ 9223372036854775807) : wrap64 ((pre.length : Int) + 1) = ((pre ++ [x]).length : Int) := by
  rw [List.length_append, List.length_cons] at h
  rw [List.length_append, List.length_singleton]
  unfold wrap64
  omega
theorem snoc_mid {α : Type} (pre suf : List α) (x : α) : pre ++ x :: suf = (pre ++ [x]) ++ suf := by simp
theorem wfb {x : Int} (h : (Lit.int .i64 x).wf = true) : -9223372036854775808 ≤ x ∧ x ≤ 9223372036854775807 := by
  simp [Lit.wf, IntKind.min, IntKind.max, IntKind.bits, IntKind.signed] at h
  omega
theorem all_wfb {l : List Int} (h : ∀ x ∈ l, (Lit.int .i64 x).wf = true) : ∀ x ∈ l, -9223372036854775808 ≤ x ∧ x ≤ 9223372036854775807 := fun x hx => wfb (h x hx)
theorem wrap_id {x : Int} (h0 : -9223372036854775808 ≤ x) (h1 : x ≤ 9223372036854775807) : wrap64 x = x := by unfold wrap64; omega

/-! slices of ints -/
/-- All numbers lie between two. -/
def allIn (l : List Int) (lo hi : Int) : Bool := l.all fun n => decide (lo ≤ n) && decide (n ≤ hi)
theorem allIn_iff {l : List Int} {lo hi : Int} : allIn l lo hi = true ↔ ∀ x ∈ l, lo ≤ x ∧ x ≤ hi := by
  unfold allIn
  rw [List.all_eq_true]
  simp
/-- Where a number first stands, -1 if nowhere. -/
def idxI (l : List Int) (n : Int) : Int := match l.findIdx? (fun x => x == n) with
  | some i => (i : Int)
  | none => -1
theorem idxI_nil (n : Int) : idxI [] n = -1 := rfl
theorem idxI_cons (x : Int) (l : List Int) (n : Int) : idxI (x :: l) n = if x = n then 0 else if idxI l n = -1 then -1 else idxI l n + 1 := by
  unfold idxI
  rw [List.findIdx?_cons]
  by_cases c : x = n
  · simp [c]
  · simp only [beq_iff_eq, c, if_false]
    cases h : l.findIdx? fun x => x == n with
    | none => simp
    | some i =>
      have : ¬ ((i : Int) = -1) := by omega
      simp [this]
theorem idxI_ge (l : List Int) (n : Int) : -1 ≤ idxI l n := by
  unfold idxI
  split <;> omega
theorem idxI_mem (l : List Int) (n : Int) : decide (idxI l n ≥ 0) = decide (n ∈ l) := by
  induction l with
  | nil => rfl
  | cons x l ih =>
    rw [idxI_cons]
    have hg := idxI_ge l n
    by_cases c : x = n
    · simp [c]
    · rw [if_neg c]
      rw [decide_eq_decide] at ih ⊢
      rw [List.mem_cons]
      split
      · have : ¬ n ∈ l := fun h => by have := ih.2 h; omega
        simp [Ne.symm c, this]
      · have : n ∈ l := ih.1 (by omega)
        simp [this]
        omega
/-- The sum, as Go's ints tell it. -/
def sumFrom (s : Int) : List Int → Int
  | [] => s
  | x :: l => sumFrom (wrap64 (s + x)) l

theorem ev_toIntS_l (l : List Int) (hn : l.length ≤ 35184372088832) : ∀ (suf pre : List Int), l = pre ++ suf → ∀ (z : List Int), z.length = suf.length → Ev (fun k => laws_toIntS.l0 k l (pre ++ z) (pre.length : Int)) l
  | [], pre, e, z, hz => by
    subst e
    have : z = [] := List.length_eq_zero_iff.1 hz
    subst this
    refine Ev.round (f := fun _ => some (pre ++ [])) (fun k => ?_) (Ev.now _)
    simp only [laws_toIntS.l0]
    rw [if_neg (by simp)]
  | x :: suf, pre, e, [], hz => by simp at hz
  | x :: suf, pre, e, y :: z, hz => by
    subst e
    have ih := ev_toIntS_l (pre ++ x :: suf) hn suf (pre ++ [x]) (snoc_mid _ _ _) z (by simpa using hz)
    refine Ev.round (fun k => ?_) ih
    simp only [laws_toIntS.l0]
    rw [if_pos (lt_mid _ _ _), if_pos (by omega), if_pos (lt_mid _ _ _), rd_mid, up_mid pre suf x (by omega)]
    congr 1
    rw [Int.toNat_natCast, List.set_append_right _ _ (Nat.le_refl _), Nat.sub_self, List.set_cons_zero]
    simp
theorem ev_toIntS (l : List Int) (hn : l.length ≤ 35184372088832) : Ev (fun k => laws_toIntS.f k l) l := by
  have h := ev_toIntS_l l hn l [] rfl (List.replicate l.length 0) (by simp)
  refine Ev.eqv (fun k => ?_) h
  unfold laws_toIntS.f
  rw [if_pos (by omega), Int.toNat_natCast, if_pos hn]
  rfl

theorem ev_eqIntS_l (a b : List Int) (hab : a.length = b.length) (hn : a.length ≤ 9223372036854775807) : ∀ (sa pa sb pb : List Int), a = pa ++ sa → b = pb ++ sb → pa.length = pb.length → Ev (fun k => laws_eqIntS.l0 k a b (pa.length : Int)) (decide (sa = sb))
  | [], pa, sb, pb, ea, eb, hp => by
    subst ea
    refine Ev.round (f := fun _ => some true) (fun k => ?_) (Ev.cast (Ev.now _) ?_)
    · simp only [laws_eqIntS.l0]
      rw [if_neg (by simp)]
    · have : sb = [] := by
        rw [eb] at hab
        simp at hab
        exact List.length_eq_zero_iff.1 (by omega)
      rw [this]; rfl
  | x :: sa, pa, [], pb, ea, eb, hp => by
    rw [ea, eb] at hab
    simp at hab
    omega
  | x :: sa, pa, y :: sb, pb, ea, eb, hp => by
    subst ea
    subst eb
    have h1 : ((pa.length : Nat) : Int) = (pb.length : Int) := by omega
    by_cases e : x = y
    · subst e
      have ih := ev_eqIntS_l (pa ++ x :: sa) (pb ++ x :: sb) hab hn sa (pa ++ [x]) sb (pb ++ [x]) (snoc_mid _ _ _) (snoc_mid _ _ _) (by simp [hp])
      refine Ev.round (fun k => ?_) (Ev.cast ih (by simp))
      simp only [laws_eqIntS.l0]
      rw [if_pos (lt_mid _ _ _), if_pos (by omega), if_pos (by rw [h1]; exact lt_mid _ _ _), rd_mid, h1, rd_mid, if_pos rfl, ← h1, up_mid _ _ _ hn]
    · refine Ev.round (f := fun _ => some false) (fun k => ?_) (Ev.cast (Ev.now _) (by simp [e]))
      simp only [laws_eqIntS.l0]
      rw [if_pos (lt_mid _ _ _), if_pos (by omega), if_pos (by rw [h1]; exact lt_mid _ _ _), rd_mid, h1, rd_mid, if_neg e]
theorem ev_eqIntS (a b : List Int) (hn : a.length ≤ 9223372036854775807) : Ev (fun k => laws_eqIntS.f k a b) (decide (a = b)) := by
  unfold laws_eqIntS.f
  by_cases h : a.length = b.length
  · exact Ev.ite_pos (by omega) (ev_eqIntS_l a b h hn a [] b [] rfl rfl rfl)
  · refine Ev.ite_neg (by omega) (Ev.cast (Ev.now _) ?_)
    rw [decide_eq_false]
    rintro rfl
    exact h rfl

theorem in_eq (a lo hi : Int) : spec_l1In.f a lo hi = some (decide (lo ≤ a) && decide (a ≤ hi)) := by
  unfold spec_l1In.f
  by_cases h : a ≥ lo
  · rw [if_pos h]; simp [h]
  · rw [if_neg h]; simp [h]

theorem within_eq (a lo hi : Int) : impl_within.f a lo hi = some (decide (lo ≤ a) && decide (a ≤ hi)) := by
  unfold impl_within.f
  by_cases h : a ≥ lo
  · rw [if_pos h]; simp [h]
  · rw [if_neg h]; simp [h]

theorem ev_l1All_l (l : List Int) (lo hi : Int) (hn : l.length ≤ 9223372036854775807) : ∀ (suf pre : List Int), l = pre ++ suf → Ev (fun k => spec_l1All.l0 k lo hi l (l.length : Int) (pre.length : Int)) (allIn suf lo hi)
  | [], pre, e => by
    subst e
    refine Ev.round (f := fun _ => some true) (fun k => ?_) (Ev.now _)
    simp only [spec_l1All.l0]
    rw [if_neg (by simp)]
  | x :: suf, pre, e => by
    subst e
    by_cases c : (decide (lo ≤ x) && decide (x ≤ hi)) = true
    · have ih := ev_l1All_l (pre ++ x :: suf) lo hi hn suf (pre ++ [x]) (snoc_mid _ _ _)
      refine Ev.round (fun k => ?_) (Ev.cast ih (by unfold allIn; rw [List.all_cons, c, Bool.true_and]))
      simp only [spec_l1All.l0]
      rw [if_pos (lt_mid _ _ _), if_pos (by omega), if_pos (lt_mid _ _ _), rd_mid, in_eq, Option.bind_some, if_pos c, up_mid _ _ _ hn]
    · refine Ev.round (f := fun _ => some false) (fun k => ?_) (Ev.cast (Ev.now _) (by unfold allIn; rw [List.all_cons, Bool.eq_false_iff.2 c, Bool.false_and]))
      simp only [spec_l1All.l0]
      rw [if_pos (lt_mid _ _ _), if_pos (by omega), if_pos (lt_mid _ _ _), rd_mid, in_eq, Option.bind_some, if_neg c]
theorem ev_l1All (l : List Int) (lo hi : Int) (hn : l.length ≤ 9223372036854775807) : Ev (fun k => spec_l1All.f k l lo hi) (allIn l lo hi) := ev_l1All_l l lo hi hn l [] rfl

theorem allWithin_eq (l : List Int) (lo hi : Int) : impl_allWithin.f l lo hi = some (allIn l lo hi) := rfl

theorem ev_l1Has_l (l : List Int) (n : Int) (hn : l.length ≤ 9223372036854775807) : ∀ (suf pre : List Int), l = pre ++ suf → Ev (fun k => spec_l1Has.l0 k n l (l.length : Int) (pre.length : Int)) (decide (n ∈ suf))
  | [], pre, e => by
    subst e
    refine Ev.round (f := fun _ => some false) (fun k => ?_) (Ev.cast (Ev.now _) (by simp))
    simp only [spec_l1Has.l0]
    rw [if_neg (by simp)]
  | x :: suf, pre, e => by
    subst e
    by_cases c : x = n
    · refine Ev.round (f := fun _ => some true) (fun k => ?_) (Ev.cast (Ev.now _) (by simp [c]))
      simp only [spec_l1Has.l0]
      rw [if_pos (lt_mid _ _ _), if_pos (by omega), if_pos (lt_mid _ _ _), rd_mid, if_pos c]
    · have ih := ev_l1Has_l (pre ++ x :: suf) n hn suf (pre ++ [x]) (snoc_mid _ _ _)
      refine Ev.round (fun k => ?_) (Ev.cast ih (by simp [Ne.symm c]))
      simp only [spec_l1Has.l0]
      rw [if_pos (lt_mid _ _ _), if_pos (by omega), if_pos (lt_mid _ _ _), rd_mid, if_neg c, up_mid _ _ _ hn]
theorem ev_l1Has (l : List Int) (n : Int) (hn : l.length ≤ 9223372036854775807) : Ev (fun k => spec_l1Has.f k l n) (decide (n ∈ l)) := ev_l1Has_l l n hn l [] rfl

/-! marks in slices of ints -/

theorem szIntS_eq (l : List Int) (a : Int) : laws_szIntS.f l a = some (if wrap64 (a - (l.length : Int)) < 0 then -1 else wrap64 (a - (l.length : Int))) := by
  unfold laws_szIntS.f
  split <;> rfl

/-! slices of slices of ints -/
theorem rdL_mid (pre suf : List (List Int)) (x : List Int) : rd_L1 (pre ++ x :: suf) (pre.length : Int) = x := getD_mid [] pre suf x
/-- What two texts answer alike. -/
def Same {α : Type} (g h : Nat → Option α) : Prop := ∃ r, Ev g r ∧ Ev h r
theorem Same.of {α : Type} {g h : Nat → Option α} {r : α} (a : Ev g r) (b : Ev h r) : Same g h := ⟨r, a, b⟩
theorem Same.now {α : Type} (r : α) : Same (fun _ => some r) (fun _ => some r) := ⟨r, Ev.now _, Ev.now _⟩
theorem Same.round {α : Type} {g h g' h' : Nat → Option α} (a : ∀ k, g (k + 1) = g' k) (b : ∀ k, h (k + 1) = h' k) (s : Same g' h') : Same g h := by
  obtain ⟨r, p, q⟩ := s
  exact ⟨r, Ev.round a p, Ev.round b q⟩
theorem Same.eqv {α : Type} {g h g' h' : Nat → Option α} (a : ∀ k, g k = g' k) (b : ∀ k, h k = h' k) (s : Same g' h') : Same g h := by
  obtain ⟨r, p, q⟩ := s
  exact ⟨r, Ev.eqv a p, Ev.eqv b q⟩
theorem Same.bind {α β : Type} {g h : Nat → Option α} {f f' : Nat → α → Option β} {a : α} (p : Ev g a) (q : Ev h a) (s : Same (fun n => f n a) (fun n => f' n a)) : Same (fun n => (g n).bind (f n)) (fun n => (h n).bind (f' n)) := by
  obtain ⟨r, p', q'⟩ := s
  exact ⟨r, Ev.bind p p', Ev.bind q q'⟩

def szI (x : List Int) (a : Int) : Int := if wrap64 (a - (x.length : Int)) < 0 then -1 else wrap64 (a - (x.length : Int))
def szGo (a : Int) : List (List Int) → Int
  | [] => a
  | x :: l => if szI x a < 0 then -1 else szGo (szI x a) l
def szRows (l : List (List Int)) (a : Int) : Int := if wrap64 (a - (l.length : Int)) < 0 then -1 else szGo (wrap64 (a - (l.length : Int))) l
theorem ev_szIntSS_l (l : List (List Int)) (hn : l.length ≤ 9223372036854775807) : ∀ (suf pre : List (List Int)) (a : Int), l = pre ++ suf → Ev (fun k => laws_szIntSS.l0 k l a (pre.length : Int)) (szGo a suf)
  | [], pre, a, e => by
    subst e
    refine Ev.round (f := fun _ => some a) (fun k => ?_) (Ev.now _)
    simp only [laws_szIntSS.l0]
    rw [if_neg (by simp)]
  | x :: suf, pre, a, e => by
    subst e
    have hz : laws_szIntS.f x a = some (szI x a) := szIntS_eq x a
    by_cases c : szI x a < 0
    · refine Ev.round (f := fun _ => some (-1)) (fun k => ?_) (Ev.cast (Ev.now _) (by rw [szGo, if_pos c]))
      simp only [laws_szIntSS.l0]
      rw [if_pos (lt_mid _ _ _), if_pos (by omega), rdL_mid, hz, Option.bind_some, if_pos c]
    · have ih := ev_szIntSS_l (pre ++ x :: suf) hn suf (pre ++ [x]) (szI x a) (snoc_mid _ _ _)
      refine Ev.round (fun k => ?_) (Ev.cast ih (by rw [szGo, if_neg c]))
      simp only [laws_szIntSS.l0]
      rw [if_pos (lt_mid _ _ _), if_pos (by omega), rdL_mid, hz, Option.bind_some, if_neg c, up_mid _ _ _ hn]
theorem ev_szIntSS (l : List (List Int)) (a : Int) (hn : l.length ≤ 9223372036854775807) : Ev (fun k => laws_szIntSS.f k l a) (szRows l a) := by
  unfold laws_szIntSS.f szRows
  by_cases c : wrap64 (a - (l.length : Int)) < 0
  · rw [if_pos c]
    exact Ev.ite_pos c (Ev.now _)
  · rw [if_neg c]
    exact Ev.ite_neg c (ev_szIntSS_l l hn l [] _ rfl)
theorem szI_ok {x : List Int} {a : Int} (h0 : 0 ≤ a) (ha : a ≤ 4611686018427387904) (hx : x.length ≤ 9223372036854775807) (h : ¬ szI x a < 0) : (x.length : Int) ≤ a ∧ szI x a = a - x.length := by
  have hw : wrap64 (a - (x.length : Int)) = a - x.length := by unfold wrap64; omega
  unfold szI at h ⊢
  rw [hw] at h ⊢
  by_cases c : a - (x.length : Int) < 0
  · rw [if_pos c] at h; omega
  · rw [if_neg c]; omega
theorem szGo_ok : ∀ (l : List (List Int)) (a : Int), 0 ≤ a → a ≤ 4611686018427387904 → (∀ x ∈ l, x.length ≤ 9223372036854775807) → ¬ szGo a l < 0 → (∀ x ∈ l, (x.length : Int) ≤ a) ∧ szGo a l ≤ a
  | [], a, h0, ha, hx, h => ⟨by simp, Int.le_refl _⟩
  | x :: l, a, h0, ha, hx, h => by
    rw [szGo] at h ⊢
    by_cases c : szI x a < 0
    · rw [if_pos c] at h; omega
    · rw [if_neg c] at h ⊢
      obtain ⟨h1, h2⟩ := szI_ok h0 ha (hx x (by simp)) c
      obtain ⟨h3, h4⟩ := szGo_ok l (szI x a) (by omega) (by omega) (fun y hy => hx y (by simp [hy])) h
      refine ⟨fun y hy => ?_, by omega⟩
      rcases List.mem_cons.1 hy with rfl | hy
      · exact h1
      · have := h3 y hy; omega
theorem szRows_ok {l : List (List Int)} {a : Int} (h0 : 0 ≤ a) (ha : a ≤ 4611686018427387904) (hl : l.length ≤ 9223372036854775807) (hx : ∀ x ∈ l, x.length ≤ 9223372036854775807) (h : ¬ szRows l a < 0) : (l.length : Int) ≤ a ∧ (∀ x ∈ l, (x.length : Int) ≤ a) ∧ szRows l a ≤ a := by
  have hw : wrap64 (a - (l.length : Int)) = a - l.length := by unfold wrap64; omega
  unfold szRows at h ⊢
  rw [hw] at h ⊢
  by_cases c : a - (l.length : Int) < 0
  · rw [if_pos c] at h; omega
  · rw [if_neg c] at h ⊢
    obtain ⟨h3, h4⟩ := szGo_ok l _ (by omega) (by omega) hx h
    exact ⟨by omega, fun x hx => by have := h3 x hx; omega, by omega⟩

theorem ev_toIntSS_l (l : List (List Int)) (hn : l.length ≤ 11728124029610) (hx : ∀ x ∈ l, x.length ≤ 35184372088832) : ∀ (suf pre : List (List Int)), l = pre ++ suf → ∀ (z : List (List Int)), z.length = suf.length → Ev (fun k => laws_toIntSS.l0 k l (pre ++ z) (pre.length : Int)) l
  | [], pre, e, z, hz => by
    subst e
    have : z = [] := List.length_eq_zero_iff.1 hz
    subst this
    refine Ev.round (f := fun _ => some (pre ++ [])) (fun k => ?_) (Ev.now _)
    simp only [laws_toIntSS.l0]
    rw [if_neg (by simp)]
  | x :: suf, pre, e, [], hz => by simp at hz
  | x :: suf, pre, e, y :: z, hz => by
    subst e
    have ih := ev_toIntSS_l (pre ++ x :: suf) hn hx suf (pre ++ [x]) (snoc_mid _ _ _) z (by simpa using hz)
    have ht := ev_toIntS x (hx x (by simp))
    refine Ev.round (fun k => ?_) (Ev.bind ht (f := fun k t => laws_toIntSS.l0 k (pre ++ x :: suf) (pre ++ [t] ++ z) (((pre ++ [x]).length : Nat) : Int)) ih)
    simp only [laws_toIntSS.l0]
    rw [if_pos (lt_mid _ _ _), if_pos (by omega), rdL_mid]
    congr 1
    funext t
    rw [if_pos (lt_mid _ _ _), up_mid pre suf x (by omega), Int.toNat_natCast, List.set_append_right _ _ (Nat.le_refl _), Nat.sub_self, List.set_cons_zero]
    simp
theorem ev_toIntSS (l : List (List Int)) (hn : l.length ≤ 11728124029610) (hx : ∀ x ∈ l, x.length ≤ 35184372088832) : Ev (fun k => laws_toIntSS.f k l) l := by
  have h := ev_toIntSS_l l hn hx l [] rfl (List.replicate l.length []) (by simp)
  refine Ev.eqv (fun k => ?_) h
  unfold laws_toIntSS.f
  rw [if_pos (by omega), Int.toNat_natCast, if_pos hn]
  rfl

theorem ev_eqIntSS_l (a b : List (List Int)) (hab : a.length = b.length) (hn : a.length ≤ 9223372036854775807) (hx : ∀ x ∈ a, x.length ≤ 9223372036854775807) : ∀ (sa pa sb pb : List (List Int)), a = pa ++ sa → b = pb ++ sb → pa.length = pb.length → Ev (fun k => laws_eqIntSS.l0 k a b (pa.length : Int)) (decide (sa = sb))
  | [], pa, sb, pb, ea, eb, hp => by
    subst ea
    refine Ev.round (f := fun _ => some true) (fun k => ?_) (Ev.cast (Ev.now _) ?_)
    · simp only [laws_eqIntSS.l0]
      rw [if_neg (by simp)]
    · have : sb = [] := by
        rw [eb] at hab
        simp at hab
        exact List.length_eq_zero_iff.1 (by omega)
      rw [this]; rfl
  | x :: sa, pa, [], pb, ea, eb, hp => by
    rw [ea, eb] at hab
    simp at hab
    omega
  | x :: sa, pa, y :: sb, pb, ea, eb, hp => by
    subst ea
    subst eb
    have h1 : ((pa.length : Nat) : Int) = (pb.length : Int) := by omega
    have h2 : (pa.length : Int) < ((pb ++ y :: sb).length : Int) := by rw [h1]; exact lt_mid _ _ _
    have h3 : rd_L1 (pb ++ y :: sb) (pa.length : Int) = y := by rw [h1]; exact rdL_mid _ _ _
    have he := ev_eqIntS x y (hx x (by simp))
    have ih := fun (e : x = y) => ev_eqIntSS_l (pa ++ x :: sa) (pb ++ y :: sb) hab hn hx sa (pa ++ [x]) sb (pb ++ [y]) (snoc_mid _ _ _) (snoc_mid _ _ _) (by simp [hp])
    refine Ev.round (fun k => ?_) (Ev.bind he (f := fun k t => if t = true then laws_eqIntSS.l0 k (pa ++ x :: sa) (pb ++ y :: sb) (((pa ++ [x]).length : Nat) : Int) else some false) ?_)
    · simp only [laws_eqIntSS.l0]
      rw [if_pos (lt_mid _ _ _), if_pos (by omega), if_pos h2, rdL_mid, h3, up_mid _ _ _ hn]
    · by_cases e : x = y
      · exact Ev.ite_pos (by simp [e]) (Ev.cast (ih e) (by simp [e]))
      · exact Ev.ite_neg (by simp [e]) (Ev.cast (Ev.now _) (by simp [e]))
theorem ev_eqIntSS (a b : List (List Int)) (hn : a.length ≤ 9223372036854775807) (hx : ∀ x ∈ a, x.length ≤ 9223372036854775807) : Ev (fun k => laws_eqIntSS.f k a b) (decide (a = b)) := by
  unfold laws_eqIntSS.f
  by_cases h : a.length = b.length
  · exact Ev.ite_pos (by omega) (ev_eqIntSS_l a b h hn hx a [] b [] rfl rfl rfl)
  · refine Ev.ite_neg (by omega) (Ev.cast (Ev.now _) ?_)
    rw [decide_eq_false]
    rintro rfl
    exact h rfl

/-! good costs -/
/-- All rows are as long as n says, and lie from 0 up to hi. -/
def rowsB (n : Nat) (hi : Int) (l : List (List Int)) : Bool := l.all fun x => decide (x.length = n) && allIn x 0 hi
theorem rowsB_iff {n : Nat} {hi : Int} {l : List (List Int)} : rowsB n hi l = true ↔ ∀ x ∈ l, x.length = n ∧ ∀ v ∈ x, 0 ≤ v ∧ v ≤ hi := by
  unfold rowsB
  rw [List.all_eq_true]
  refine forall_congr' fun x => ?_
  rw [Bool.and_eq_true, decide_eq_true_eq, allIn_iff]

def costsB (l : List (List Int)) : Bool := (decide (1 ≤ (l.length : Int)) && decide ((l.length : Int) ≤ 10)) && rowsB l.length 100 l
theorem costsB_iff {l : List (List Int)} (h : costsB l = true) : (1 ≤ l.length ∧ l.length ≤ 10) ∧ ∀ x ∈ l, x.length = l.length ∧ ∀ v ∈ x, 0 ≤ v ∧ v ≤ 100 := by
  unfold costsB at h
  rw [Bool.and_eq_true, rowsB_iff] at h
  refine ⟨?_, h.2⟩
  have := h.1
  simp at this
  omega
theorem ev_GoodCosts_l (l : List (List Int)) (hn : l.length ≤ 9223372036854775807) (hx : ∀ x ∈ l, x.length ≤ 9223372036854775807) : ∀ (suf pre : List (List Int)), l = pre ++ suf →
    Ev (fun k => spec_GoodCosts.l0 k l l (l.length : Int) (pre.length : Int)) (rowsB l.length 100 suf && (decide (1 ≤ (l.length : Int)) && decide ((l.length : Int) ≤ 10)))
  | [], pre, e => by
    subst e
    refine Ev.round (f := fun _ => some (decide (1 ≤ ((pre ++ []).length : Int)) && decide (((pre ++ []).length : Int) ≤ 10))) (fun k => ?_) (Ev.cast (Ev.now _) (by simp [rowsB]))
    simp only [spec_GoodCosts.l0]
    rw [if_neg (by simp), in_eq, Option.bind_some]
  | x :: suf, pre, e => by
    subst e
    have ih := ev_GoodCosts_l (pre ++ x :: suf) hn hx suf (pre ++ [x]) (snoc_mid _ _ _)
    generalize hN : (pre ++ x :: suf).length = N at ih ⊢
    by_cases c : x.length = N
    · have ha := ev_l1All x 0 100 (hx x (by simp))
      refine Ev.round (fun k => ?_) (Ev.bind ha (f := fun k t => if t = true then spec_GoodCosts.l0 k (pre ++ x :: suf) (pre ++ x :: suf) (N : Int) (((pre ++ [x]).length : Nat) : Int) else some false) ?_)
      · simp only [spec_GoodCosts.l0]
        rw [if_pos (by rw [← hN]; exact lt_mid _ _ _), if_pos (by omega), if_pos (lt_mid _ _ _), rdL_mid, hN, if_pos (by omega), up_mid _ _ _ hn]
      · by_cases d : allIn x 0 100 = true
        · exact Ev.ite_pos d (Ev.cast ih (by unfold rowsB; rw [List.all_cons, d, decide_eq_true c]; rfl))
        · exact Ev.ite_neg d (Ev.cast (Ev.now _) (by unfold rowsB; rw [List.all_cons, Bool.eq_false_iff.2 d]; simp))
    · refine Ev.round (f := fun _ => some false) (fun k => ?_) (Ev.cast (Ev.now _) (by unfold rowsB; rw [List.all_cons, decide_eq_false c]; simp))
      simp only [spec_GoodCosts.l0]
      rw [if_pos (by rw [← hN]; exact lt_mid _ _ _), if_pos (by omega), if_pos (lt_mid _ _ _), rdL_mid, hN, if_neg (by omega)]
theorem ev_GoodCosts (l : List (List Int)) (hn : l.length ≤ 9223372036854775807) (hx : ∀ x ∈ l, x.length ≤ 9223372036854775807) : Ev (fun k => spec_GoodCosts.f k l) (costsB l) :=
  Ev.cast (ev_GoodCosts_l l hn hx l [] rfl) (Bool.and_comm _ _)

theorem goodCosts_eq (l : List (List Int)) : impl_GoodCosts.f l = some (costsB l) := rfl

/-! orders: 0 up to a number less 1, each once -/

/-- The numbers lie in 0 .. m - 1, and none stands before. -/
def ordP (m : Int) : List Int → List Int → Bool
  | _, [] => true
  | pre, x :: suf => (decide (0 ≤ x) && decide (x ≤ m - 1)) && !(decide (x ∈ pre)) && ordP m (pre ++ [x]) suf
theorem ordP_iff (m : Int) : ∀ (suf pre : List Int), ordP m pre suf = true ↔ (∀ x ∈ suf, 0 ≤ x ∧ x ≤ m - 1) ∧ (∀ x ∈ suf, ¬ x ∈ pre) ∧ suf.Nodup
  | [], pre => by simp [ordP]
  | x :: suf, pre => by
    rw [ordP, Bool.and_eq_true, Bool.and_eq_true, Bool.and_eq_true, decide_eq_true_eq, decide_eq_true_eq, Bool.not_eq_true', decide_eq_false_iff_not, ordP_iff m suf (pre ++ [x]), List.nodup_cons]
    constructor
    · rintro ⟨⟨⟨h1, h2⟩, h3⟩, h4, h5, h6⟩
      refine ⟨fun y hy => ?_, fun y hy => ?_, fun hx => h5 x hx (by simp), h6⟩
      · rcases List.mem_cons.1 hy with rfl | hy
        · exact ⟨h1, h2⟩
        · exact h4 y hy
      · rcases List.mem_cons.1 hy with rfl | hy
        · exact h3
        · exact fun hp => h5 y hy (by simp [hp])
    · rintro ⟨h1, h2, h3, h4⟩
      refine ⟨⟨⟨(h1 x (by simp)).1, (h1 x (by simp)).2⟩, h2 x (by simp)⟩, fun y hy => h1 y (by simp [hy]), fun y hy hp => ?_, h4⟩
      rcases List.mem_append.1 hp with hp | hp
      · exact h2 y (by simp [hy]) hp
      · rw [List.mem_singleton] at hp
        exact h3 (hp ▸ hy)
theorem cnt_lt : ∀ (s : List Int) (a b : Int), s.Pairwise (· < ·) → (∀ x ∈ s, a ≤ x ∧ x < b) → s.length ≤ (b - a).toNat
  | [], _, _, _, _ => Nat.zero_le _
  | x :: s, a, b, hp, h => by
    rw [List.pairwise_cons] at hp
    have ih := cnt_lt s (x + 1) b hp.2 (fun y hy => ⟨by have := hp.1 y hy; omega, (h y (by simp [hy])).2⟩)
    have := h x (by simp)
    rw [List.length_cons]
    omega
theorem up_of : ∀ (s : List Int) (a : Int), s.Pairwise (· < ·) → (∀ x ∈ s, a ≤ x ∧ x < a + s.length) → upI s a = true
  | [], _, _, _ => rfl
  | x :: s, a, hp, h => by
    rw [List.pairwise_cons] at hp
    have hx := h x (by simp)
    rw [List.length_cons] at h hx
    have hc := cnt_lt s (x + 1) (a + ((s.length + 1 : Nat) : Int)) hp.2 (fun y hy => ⟨by have := hp.1 y hy; omega, (h y (by simp [hy])).2⟩)
    have e : x = a := by omega
    rw [upI, e, decide_eq_true rfl, Bool.true_and]
    refine up_of s (a + 1) hp.2 (fun y hy => ?_)
    have h1 := hp.1 y hy
    have h2 := (h y (by simp [hy])).2
    exact ⟨by omega, by omega⟩
theorem up_in : ∀ (s : List Int) (a : Int), upI s a = true → s.Nodup ∧ ∀ x ∈ s, a ≤ x ∧ x < a + s.length
  | [], _, _ => ⟨List.nodup_nil, by simp⟩
  | x :: s, a, h => by
    rw [upI, Bool.and_eq_true, decide_eq_true_eq] at h
    obtain ⟨rfl, h⟩ := h
    obtain ⟨h1, h2⟩ := up_in s (x + 1) h
    refine ⟨List.nodup_cons.2 ⟨fun hx => by have := h2 x hx; omega, h1⟩, fun y hy => ?_⟩
    rw [List.length_cons]
    rcases List.mem_cons.1 hy with rfl | hy
    · omega
    · have := h2 y hy
      omega
theorem sortI_perm (l : List Int) : (sortI l).Perm l := List.mergeSort_perm l _
theorem sortI_sorted (l : List Int) : (sortI l).Pairwise (· ≤ ·) := by
  have h := List.pairwise_mergeSort (le := fun x y : Int => decide (x ≤ y)) (fun a b c h1 h2 => by rw [decide_eq_true_eq] at h1 h2 ⊢; omega) (fun a b => by rw [Bool.or_eq_true, decide_eq_true_eq, decide_eq_true_eq]; omega) l
  exact h.imp (fun h => of_decide_eq_true h)
/-- The numbers are an order of so many. -/
def ordB (l : List Int) (m : Int) : Bool := decide ((l.length : Int) = m) && ordP m [] l
theorem ordB_impl (l : List Int) (m : Int) : (upI (sortI l) 0 && decide ((l.length : Int) = m)) = ordB l m := by
  unfold ordB
  rw [Bool.and_comm]
  by_cases h : (l.length : Int) = m
  · rw [decide_eq_true h, Bool.true_and, Bool.true_and, Bool.eq_iff_iff, ordP_iff]
    have hm : ∀ x, x ∈ sortI l ↔ x ∈ l := fun x => (sortI_perm l).mem_iff
    have hl := sortI_length l
    constructor
    · intro hu
      obtain ⟨h1, h2⟩ := up_in _ _ hu
      refine ⟨fun x hx => ?_, by simp, (sortI_perm l).nodup_iff.1 h1⟩
      have := h2 x ((hm x).2 hx)
      rw [hl] at this
      omega
    · rintro ⟨h1, _, h3⟩
      refine up_of _ _ ?_ (fun x hx => ?_)
      · exact ((sortI_sorted l).and ((sortI_perm l).nodup_iff.2 h3)).imp (fun h => by omega)
      · have := h1 x ((hm x).1 hx)
        rw [hl]
        omega
  · rw [decide_eq_false h, Bool.false_and, Bool.false_and]
theorem ordB_in {l : List Int} {m : Int} (h : ordB l m = true) : (l.length : Int) = m ∧ ∀ x ∈ l, 0 ≤ x ∧ x < m := by
  unfold ordB at h
  rw [Bool.and_eq_true, decide_eq_true_eq, ordP_iff] at h
  exact ⟨h.1, fun x hx => by have := h.2.1 x hx; omega⟩
theorem implOrder (l : List Int) (m : Int) (hl : l.length ≤ 17592186044416) : impl_isOrder.f l m = some (ordB l m) := by
  unfold impl_isOrder.f
  rw [if_pos hl, ordB_impl]
theorem ev_l7Order_l (l : List Int) (hn : l.length ≤ 4611686018427387904) : ∀ (suf pre : List Int), l = pre ++ suf → Ev (fun k => spec_l7Order.l0 k l (l.length : Int) l (l.length : Int) (pre.length : Int)) (ordP (l.length : Int) pre suf)
  | [], pre, e => by
    subst e
    refine Ev.round (f := fun _ => some true) (fun k => ?_) (Ev.now _)
    simp only [spec_l7Order.l0]
    rw [if_neg (by simp)]
  | x :: suf, pre, e => by
    have hw : wrap64 ((l.length : Int) - 1) = (l.length : Int) - 1 := by unfold wrap64; omega
    subst e
    have ih := ev_l7Order_l (pre ++ x :: suf) hn suf (pre ++ [x]) (snoc_mid _ _ _)
    have ht : (pre ++ x :: suf).take ((pre.length : Int)).toNat = pre := by simp
    have hle : (pre.length : Int) ≤ ((pre ++ x :: suf).length : Int) := by simp; omega
    refine Ev.round (fun k => by simp only [spec_l7Order.l0]; rw [if_pos (lt_mid _ _ _), rd_mid, hw, up_mid pre suf x (by omega), ht]) ?_
    refine Ev.ite_pos (by omega) (Ev.ite_pos (lt_mid _ _ _) (Ev.bindc (in_eq _ _ _) ?_))
    rw [ordP]
    by_cases c : (decide (0 ≤ x) && decide (x ≤ ((pre ++ x :: suf).length : Int) - 1)) = true
    · rw [c, Bool.true_and]
      refine Ev.ite_pos rfl (Ev.ite_pos hle (Ev.bind (ev_l1Has pre x (by simp at hn; omega)) ?_))
      by_cases d : x ∈ pre
      · rw [decide_eq_true d]
        exact Ev.ite_pos rfl (Ev.now _)
      · rw [decide_eq_false d]
        exact Ev.ite_neg (by decide) (by simpa using ih)
    · rw [Bool.eq_false_iff.2 c]
      exact Ev.ite_neg (by decide) (by rw [Bool.false_and, Bool.false_and]; exact Ev.now _)
theorem ev_l7Order (l : List Int) (m : Int) (hn : l.length ≤ 4611686018427387904) : Ev (fun k => spec_l7Order.f k l m) (ordB l m) := by
  unfold spec_l7Order.f ordB
  by_cases h : (l.length : Int) = m
  · subst h
    rw [decide_eq_true rfl, Bool.true_and]
    exact Ev.ite_pos rfl (ev_l7Order_l l hn l [] rfl)
  · rw [decide_eq_false h]
    exact Ev.ite_neg h (Ev.now _)

end Go.Proofs.Ytdlblaihleojmaa.Pure
