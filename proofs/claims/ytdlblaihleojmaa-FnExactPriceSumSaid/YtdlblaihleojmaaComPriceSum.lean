import Derived.Test.YtdlblaihleojmaaGLPriceSum1
import Derived.Test.YtdlblaihleojmaaGLPriceSum2
namespace Go.Proofs.Ytdlblaihleojmaa.Pure
open Go.RowKit Go.Proofs.Ytdlblaihleojmaa.GLPriceSum Go.Proofs.YtdlblaihleojmaaW.PrintWords Go.Proofs.YtdlblaihleojmaaW.PrintLast Go.Proofs.YtdlblaihleojmaaW.PrintMore Go.Proofs.YtdlblaihleojmaaW.PrintOwn
set_option linter.unusedVariables false
set_option linter.unusedSimpArgs false
/-! rounds: what a loop over a list answers -/
theorem Ev.det {α : Type} {g : Nat → Option α} {r : α} (h : ∀ k, g k = some r) : Ev g r := ⟨0, fun k _ => h k⟩
theorem Ev.bind' {α β : Type} {g : Nat → Option α} {f : Nat → α → Option β} {a : α} {r : β} (h : Ev g a) (k : Ev (fun n => f n a) r) : Ev (fun n => (g n).bind (f n)) r := Ev.bind h k
theorem Ev.bindc {α β : Type} {g : Option α} {f : Nat → α → Option β} {a : α} {r : β} (h : g = some a) (k : Ev (fun n => f n a) r) : Ev (fun n => g.bind (f n)) r := by
  subst h
  exact k
/-- One round. -/
theorem Ev.round {α : Type} {g f : Nat → Option α} {r : α} (h : ∀ k, g (k + 1) = f k) (k : Ev f r) : Ev g r := Ev.step h k
theorem Ev.eqv {α : Type} {g f : Nat → Option α} {r : α} (h : ∀ k, g k = f k) (k : Ev f r) : Ev g r := Ev.congr h k
theorem Ev.cast {α : Type} {g : Nat → Option α} {r r' : α} (h : Ev g r) (e : r = r') : Ev g r' := e ▸ h
theorem Ev.ite_pos {α : Type} {c : Prop} [Decidable c] {g f : Nat → Option α} {r : α} (hc : c) (k : Ev g r) : Ev (fun n => if c then g n else f n) r := by
  refine Ev.eqv (fun n => ?_) k
  rw [if_pos hc]
theorem Ev.ite_neg {α : Type} {c : Prop} [Decidable c] {g f : Nat → Option α} {r : α} (hc : ¬ c) (k : Ev f r) : Ev (fun n => if c then g n else f n) r := by
  refine Ev.eqv (fun n => ?_) k
  rw [if_neg hc]
theorem getD_mid {α : Type} (d : α) (pre suf : List α) (x : α) : (pre ++ x :: suf).getD (pre.length : Int).toNat d = x := by
  rw [Int.toNat_natCast, List.getD_eq_getElem?_getD, List.getElem?_append_right (Nat.le_refl _), Nat.sub_self]
  rfl
theorem rd_mid (pre suf : List Int) (x : Int) : rd (pre ++ x :: suf) (pre.length : Int) = x := getD_mid 0 pre suf x
theorem rdOf_mid {α : Type} (d : α) (pre suf : List α) (x : α) : rdOf d (pre ++ x :: suf) (pre.length : Int) = x := getD_mid d pre suf x
theorem lt_mid {α : Type} (pre suf : List α) (x : α) : (pre.length : Int) < ((pre ++ x :: suf).length : Int) := by
  rw [List.length_append, List.length_cons]; omega
theorem up_mid {α : Type} (pre suf : List α) (x : α) (h : (pre ++ x :: suf).length ≤ 9223372036854775807) : wrap64 ((pre.length : Int) + 1) = ((pre ++ [x]).length : Int) := by
  rw [List.length_append, List.length_cons] at h
  rw [List.length_append, List.length_singleton]
  unfold wrap64
  omega
theorem snoc_mid {α : Type} (pre suf : List α) (x : α) : pre ++ x :: suf = (pre ++ [x]) ++ suf := by simp
theorem wfb {x : Int} (h : (Lit.int .i64 x).wf = true) : -9223372036854775808 ≤ x ∧ x ≤ 9223372036854775807 := by
  simp [Lit.wf, IntKind.min, IntKind.max, IntKind.bits, IntKind.signed] at h
  omega
theorem all_wfb {l : List Int} (h : ∀ x ∈ l, (Lit.int .i64 x).wf = true) : ∀ x ∈ l, -9223372036854775808 ≤ x ∧ x ≤ 9223372036854775807 := fun x hx => wfb (h x hx)
theorem wrap_id {x : Int} (h0 : -9223372036854775808 ≤ x) (h1 : x ≤ 9223372036854775807) : wrap64 x = x := by unfold wrap64; omega

/-! slices of ints -/
/-- All numbers lie between two. -/
def allIn (l : List Int) (lo hi : Int) : Bool := l.all fun n => decide (lo ≤ n) && decide (n ≤ hi)
theorem allIn_iff {l : List Int} {lo hi : Int} : allIn l lo hi = true ↔ ∀ x ∈ l, lo ≤ x ∧ x ≤ hi := by
  unfold allIn
  rw [List.all_eq_true]
  simp
/-- Where a number first stands, -1 if nowhere. -/
def idxI (l : List Int) (n : Int) : Int := match l.findIdx? (fun x => x == n) with
  | some i => (i : Int)
  | none => -1
theorem idxI_nil (n : Int) : idxI [] n = -1 := rfl
theorem idxI_cons (x : Int) (l : List Int) (n : Int) : idxI (x :: l) n = if x = n then 0 else if idxI l n = -1 then -1 else idxI l n + 1 := by
  unfold idxI
  rw [List.findIdx?_cons]
  by_cases c : x = n
  · simp [c]
  · simp only [beq_iff_eq, c, if_false]
    cases h : l.findIdx? fun x => x == n with
    | none => simp
    | some i =>
      have : ¬ ((i : Int) = -1) := by omega
      simp [this]
theorem idxI_ge (l : List Int) (n : Int) : -1 ≤ idxI l n := by
  unfold idxI
  split <;> omega
theorem idxI_mem (l : List Int) (n : Int) : decide (idxI l n ≥ 0) = decide (n ∈ l) := by
  induction l with
  | nil => rfl
  | cons x l ih =>
    rw [idxI_cons]
    have hg := idxI_ge l n
    by_cases c : x = n
    · simp [c]
    · rw [if_neg c]
      rw [decide_eq_decide] at ih ⊢
      rw [List.mem_cons]
      split
      · have : ¬ n ∈ l := fun h => by have := ih.2 h; omega
        simp [Ne.symm c, this]
      · have : n ∈ l := ih.1 (by omega)
        simp [this]
        omega
/-- The sum, as Go's ints tell it. -/
def sumFrom (s : Int) : List Int → Int
  | [] => s
  | x :: l => sumFrom (wrap64 (s + x)) l

theorem ev_toIntS_l (l : List Int) (hn : l.length ≤ 35184372088832) : ∀ (suf pre : List Int), l = pre ++ suf → ∀ (z : List Int), z.length = suf.length → Ev (fun k => laws_toIntS.l0 k l (pre ++ z) (pre.length : Int)) l
  | [], pre, e, z, hz => by
    subst e
    have : z = [] := List.length_eq_zero_iff.1 hz
    subst this
    refine Ev.round (f := fun _ => some (pre ++ [])) (fun k => ?_) (Ev.now _)
    simp only [laws_toIntS.l0]
    rw [if_neg (by simp)]
  | x :: suf, pre, e, [], hz => by simp at hz
  | x :: suf, pre, e, y :: z, hz => by
    subst e
    have ih := ev_toIntS_l (pre ++ x :: suf) hn suf (pre ++ [x]) (snoc_mid _ _ _) z (by simpa using hz)
    refine Ev.round (fun k => ?_) ih
    simp only [laws_toIntS.l0]
    rw [if_pos (lt_mid _ _ _), if_pos (by omega), if_pos (lt_mid _ _ _), rd_mid, up_mid pre suf x (by omega)]
    congr 1
    rw [Int.toNat_natCast, List.set_append_right _ _ (Nat.le_refl _), Nat.sub_self, List.set_cons_zero]
    simp
theorem ev_toIntS (l : List Int) (hn : l.length ≤ 35184372088832) : Ev (fun k => laws_toIntS.f k l) l := by
  have h := ev_toIntS_l l hn l [] rfl (List.replicate l.length 0) (by simp)
  refine Ev.eqv (fun k => ?_) h
  unfold laws_toIntS.f
  rw [if_pos (by omega), Int.toNat_natCast, if_pos hn]
  rfl

theorem ev_eqIntS_l (a b : List Int) (hab : a.length = b.length) (hn : a.length ≤ 9223372036854775807) : ∀ (sa pa sb pb : List Int), a = pa ++ sa → b = pb ++ sb → pa.length = pb.length → Ev (fun k => laws_eqIntS.l0 k a b (pa.length : Int)) (decide (sa = sb))
  | [], pa, sb, pb, ea, eb, hp => by
    subst ea
    refine Ev.round (f := fun _ => some true) (fun k => ?_) (Ev.cast (Ev.now _) ?_)
    · simp only [laws_eqIntS.l0]
      rw [if_neg (by simp)]
    · have : sb = [] := by
        rw [eb] at hab
        simp at hab
        exact List.length_eq_zero_iff.1 (by omega)
      rw [this]; rfl
  | x :: sa, pa, [], pb, ea, eb, hp => by
    rw [ea, eb] at hab
    simp at hab
    omega
  | x :: sa, pa, y :: sb, pb, ea, eb, hp => by
    subst ea
    subst eb
    have h1 : ((pa.length : Nat) : Int) = (pb.length : Int) := by omega
    by_cases e : x = y
    · subst e
      have ih := ev_eqIntS_l (pa ++ x :: sa) (pb ++ x :: sb) hab hn sa (pa ++ [x]) sb (pb ++ [x]) (snoc_mid _ _ _) (snoc_mid _ _ _) (by simp [hp])
      refine Ev.round (fun k => ?_) (Ev.cast ih (by simp))
      simp only [laws_eqIntS.l0]
      rw [if_pos (lt_mid _ _ _), if_pos (by omega), if_pos (by rw [h1]; exact lt_mid _ _ _), rd_mid, h1, rd_mid, if_pos rfl, ← h1, up_mid _ _ _ hn]
    · refine Ev.round (f := fun _ => some false) (fun k => ?_) (Ev.cast (Ev.now _) (by simp [e]))
      simp only [laws_eqIntS.l0]
      rw [if_pos (lt_mid _ _ _), if_pos (by omega), if_pos (by rw [h1]; exact lt_mid _ _ _), rd_mid, h1, rd_mid, if_neg e]
theorem ev_eqIntS (a b : List Int) (hn : a.length ≤ 9223372036854775807) : Ev (fun k => laws_eqIntS.f k a b) (decide (a = b)) := by
  unfold laws_eqIntS.f
  by_cases h : a.length = b.length
  · exact Ev.ite_pos (by omega) (ev_eqIntS_l a b h hn a [] b [] rfl rfl rfl)
  · refine Ev.ite_neg (by omega) (Ev.cast (Ev.now _) ?_)
    rw [decide_eq_false]
    rintro rfl
    exact h rfl

theorem in_eq (a lo hi : Int) : spec_l1In.f a lo hi = some (decide (lo ≤ a) && decide (a ≤ hi)) := by
  unfold spec_l1In.f
  by_cases h : a ≥ lo
  · rw [if_pos h]; simp [h]
  · rw [if_neg h]; simp [h]

theorem within_eq (a lo hi : Int) : impl_within.f a lo hi = some (decide (lo ≤ a) && decide (a ≤ hi)) := by
  unfold impl_within.f
  by_cases h : a ≥ lo
  · rw [if_pos h]; simp [h]
  · rw [if_neg h]; simp [h]

theorem ev_l1All_l (l : List Int) (lo hi : Int) (hn : l.length ≤ 9223372036854775807) : ∀ (suf pre : List Int), l = pre ++ suf → Ev (fun k => spec_l1All.l0 k lo hi l (l.length : Int) (pre.length : Int)) (allIn suf lo hi)
  | [], pre, e => by
    subst e
    refine Ev.round (f := fun _ => some true) (fun k => ?_) (Ev.now _)
    simp only [spec_l1All.l0]
    rw [if_neg (by simp)]
  | x :: suf, pre, e => by
    subst e
    by_cases c : (decide (lo ≤ x) && decide (x ≤ hi)) = true
    · have ih := ev_l1All_l (pre ++ x :: suf) lo hi hn suf (pre ++ [x]) (snoc_mid _ _ _)
      refine Ev.round (fun k => ?_) (Ev.cast ih (by unfold allIn; rw [List.all_cons, c, Bool.true_and]))
      simp only [spec_l1All.l0]
      rw [if_pos (lt_mid _ _ _), if_pos (by omega), if_pos (lt_mid _ _ _), rd_mid, in_eq, Option.bind_some, if_pos c, up_mid _ _ _ hn]
    · refine Ev.round (f := fun _ => some false) (fun k => ?_) (Ev.cast (Ev.now _) (by unfold allIn; rw [List.all_cons, Bool.eq_false_iff.2 c, Bool.false_and]))
      simp only [spec_l1All.l0]
      rw [if_pos (lt_mid _ _ _), if_pos (by omega), if_pos (lt_mid _ _ _), rd_mid, in_eq, Option.bind_some, if_neg c]
theorem ev_l1All (l : List Int) (lo hi : Int) (hn : l.length ≤ 9223372036854775807) : Ev (fun k => spec_l1All.f k l lo hi) (allIn l lo hi) := ev_l1All_l l lo hi hn l [] rfl

theorem allWithin_eq (l : List Int) (lo hi : Int) : impl_allWithin.f l lo hi = some (allIn l lo hi) := rfl

theorem ev_l3Sum_l (l : List Int) (hn : l.length ≤ 9223372036854775807) : ∀ (suf pre : List Int) (s : Int), l = pre ++ suf → Ev (fun k => spec_l3Sum.l0 k s l (l.length : Int) (pre.length : Int)) (sumFrom s suf)
  | [], pre, s, e => by
    subst e
    refine Ev.round (f := fun _ => some s) (fun k => ?_) (Ev.now _)
    simp only [spec_l3Sum.l0]
    rw [if_neg (by simp)]
  | x :: suf, pre, s, e => by
    subst e
    have ih := ev_l3Sum_l (pre ++ x :: suf) hn suf (pre ++ [x]) (wrap64 (s + x)) (snoc_mid _ _ _)
    refine Ev.round (fun k => ?_) ih
    simp only [spec_l3Sum.l0]
    rw [if_pos (lt_mid _ _ _), if_pos (by omega), if_pos (lt_mid _ _ _), rd_mid, up_mid _ _ _ hn]
theorem ev_l3Sum (l : List Int) (hn : l.length ≤ 9223372036854775807) : Ev (fun k => spec_l3Sum.f k l) (sumFrom 0 l) := ev_l3Sum_l l hn l [] 0 rfl

theorem ev_sum_l (l : List Int) (hn : l.length ≤ 9223372036854775807) : ∀ (suf pre : List Int) (s : Int), l = pre ++ suf → Ev (fun k => impl_sum.l0 k s l (l.length : Int) (pre.length : Int)) (sumFrom s suf)
  | [], pre, s, e => by
    subst e
    refine Ev.round (f := fun _ => some s) (fun k => ?_) (Ev.now _)
    simp only [impl_sum.l0]
    rw [if_neg (by simp)]
  | x :: suf, pre, s, e => by
    subst e
    have ih := ev_sum_l (pre ++ x :: suf) hn suf (pre ++ [x]) (wrap64 (s + x)) (snoc_mid _ _ _)
    refine Ev.round (fun k => ?_) ih
    simp only [impl_sum.l0]
    rw [if_pos (lt_mid _ _ _), if_pos (by omega), if_pos (lt_mid _ _ _), rd_mid, up_mid _ _ _ hn]
theorem ev_sum (l : List Int) (hn : l.length ≤ 9223372036854775807) : Ev (fun k => impl_sum.f k l) (sumFrom 0 l) := ev_sum_l l hn l [] 0 rfl


/-! marks in slices of ints -/

theorem szIntS_eq (l : List Int) (a : Int) : laws_szIntS.f l a = some (if wrap64 (a - (l.length : Int)) < 0 then -1 else wrap64 (a - (l.length : Int))) := by
  unfold laws_szIntS.f
  split <;> rfl

/-! prices -/
def pricesB (a b : List Int) : Bool := decide (a.length = b.length) && (decide (a.length ≤ 10) && (allIn a (-100000) 100000 && allIn b (-100000) 100000))
theorem pricesB_iff {a b : List Int} (h : pricesB a b = true) : a.length = b.length ∧ a.length ≤ 10 ∧ (∀ x ∈ a, -100000 ≤ x ∧ x ≤ 100000) ∧ ∀ x ∈ b, -100000 ≤ x ∧ x ≤ 100000 := by
  unfold pricesB at h
  rw [Bool.and_eq_true, Bool.and_eq_true, Bool.and_eq_true, decide_eq_true_eq, decide_eq_true_eq, allIn_iff, allIn_iff] at h
  exact h

theorem ev_l9Prices (a b : List Int) (ha : a.length ≤ 9223372036854775807) (hb : b.length ≤ 9223372036854775807) : Ev (fun k => spec_l9Prices.f k a b) (pricesB a b) := by
  unfold spec_l9Prices.f pricesB
  by_cases h1 : a.length = b.length
  · refine Ev.ite_pos (by omega) ?_
    rw [decide_eq_true h1]
    by_cases h2 : a.length ≤ 10
    · refine Ev.ite_pos (by omega) ?_
      rw [decide_eq_true h2]
      refine Ev.bind (ev_l1All a _ _ ha) ?_
      by_cases h3 : allIn a (-100000) 100000 = true
      · refine Ev.ite_pos h3 (Ev.bind (ev_l1All b _ _ hb) (Ev.cast (Ev.now _) ?_))
        rw [h3]; rfl
      · refine Ev.ite_neg h3 (Ev.cast (Ev.now _) ?_)
        rw [Bool.eq_false_iff.2 h3]; rfl
    · refine Ev.ite_neg (by omega) (Ev.cast (Ev.now _) ?_)
      rw [decide_eq_false h2]; rfl
  · refine Ev.ite_neg (by omega) (Ev.cast (Ev.now _) ?_)
    rw [decide_eq_false h1]; rfl

theorem arePrices_eq (a b : List Int) : impl_arePrices.f a b = some (pricesB a b) := by
  unfold impl_arePrices.f pricesB
  by_cases h1 : a.length = b.length
  · rw [if_pos (by omega), decide_eq_true h1]
    by_cases h2 : a.length ≤ 10
    · rw [if_pos (by omega), decide_eq_true h2, allWithin_eq, Option.bind_some]
      by_cases h3 : allIn a (-100000) 100000 = true
      · rw [if_pos h3, allWithin_eq, h3]; rfl
      · rw [if_neg h3, Bool.eq_false_iff.2 h3]; rfl
    · rw [if_neg (by omega), decide_eq_false h2]; rfl
  · rw [if_neg (by omega), decide_eq_false h1]; rfl

theorem szPrices_eq (a b : List Int) (s : Int) (h0 : 0 ≤ s) (h9 : s ≤ 4611686018427387904) (ha : a.length ≤ 9223372036854775807) (hb : b.length ≤ 9223372036854775807) :
    ∃ z, laws_szPrices.f a b s = some z ∧ (z < 0 ∨ ((a.length : Int) + b.length ≤ s ∧ 0 ≤ z ∧ z ≤ s)) := by
  unfold laws_szPrices.f
  have hw : wrap64 (s - (a.length : Int)) = s - a.length := by unfold wrap64; omega
  rw [szIntS_eq, Option.bind_some, hw]
  by_cases c : s - (a.length : Int) < 0
  · rw [if_pos c, if_pos (by omega)]
    exact ⟨_, rfl, Or.inl (by omega)⟩
  · rw [if_neg c, if_neg c, szIntS_eq, Option.bind_some]
    have hw2 : wrap64 (s - (a.length : Int) - (b.length : Int)) = s - a.length - b.length := by unfold wrap64; omega
    rw [hw2]
    by_cases c2 : s - (a.length : Int) - (b.length : Int) < 0
    · rw [if_pos c2, if_pos (by omega)]
      exact ⟨_, rfl, Or.inl (by omega)⟩
    · rw [if_neg c2, if_neg c2]
      exact ⟨_, rfl, Or.inr ⟨by omega, by omega, by omega⟩⟩

theorem ev_toPrices (a b : List Int) (ha : a.length ≤ 35184372088832) (hb : b.length ≤ 35184372088832) : Ev (fun k => laws_toPrices.f k a b) (a, b) := by
  unfold laws_toPrices.f
  exact Ev.bind (ev_toIntS a ha) (Ev.bind (ev_toIntS b hb) (Ev.now _))

theorem ev_eqPrices (a b : List Int) (ha : a.length ≤ 9223372036854775807) (hb : b.length ≤ 9223372036854775807) : Ev (fun k => laws_eqPrices.f k a b a b) true := by
  unfold laws_eqPrices.f
  refine Ev.bind (ev_eqIntS a a ha) ?_
  refine Ev.ite_pos (by simp) (Ev.bind (ev_eqIntS b b hb) ?_)
  exact Ev.ite_pos (by simp) (Ev.now _)

def priceSum (a b : List Int) : Int × Bool := if pricesB a b = true then (wrap64 (sumFrom 0 a + sumFrom 0 b), true) else (0, false)
theorem ev_PriceSum (a b : List Int) (ha : a.length ≤ 9223372036854775807) (hb : b.length ≤ 9223372036854775807) : Ev (fun k => spec_PriceSum.f k a b) (priceSum a b) := by
  unfold spec_PriceSum.f priceSum
  refine Ev.bind (ev_l9Prices a b ha hb) ?_
  by_cases c : pricesB a b = true
  · rw [if_pos c]
    exact Ev.ite_pos c (Ev.bind (ev_l3Sum a ha) (Ev.bind (ev_l3Sum b hb) (Ev.now _)))
  · rw [if_neg c]
    exact Ev.ite_neg c (Ev.now _)
theorem ev_implPriceSum (a b : List Int) (ha : a.length ≤ 9223372036854775807) (hb : b.length ≤ 9223372036854775807) : Ev (fun k => impl_PriceSum.f k a b) (priceSum a b) := by
  unfold impl_PriceSum.f priceSum
  refine Ev.bindc (arePrices_eq a b) ?_
  by_cases c : pricesB a b = true
  · rw [if_pos c]
    exact Ev.ite_pos c (Ev.bind (ev_sum a ha) (Ev.bind (ev_sum b hb) (Ev.now _)))
  · rw [if_neg c]
    exact Ev.ite_neg c (Ev.now _)

end Go.Proofs.Ytdlblaihleojmaa.Pure
