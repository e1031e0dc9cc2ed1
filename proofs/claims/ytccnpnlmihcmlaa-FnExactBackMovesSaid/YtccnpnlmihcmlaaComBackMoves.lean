import Derived.Test.YtccnpnlmihcmlaaGLBackMoves0
import Derived.Test.YtccnpnlmihcmlaaGLBackMoves1
import Derived.Test.YtccnpnlmihcmlaaGLBackMoves2
namespace Go.Proofs.Ytccnpnlmihcmlaa.Pure
open Go.RowKit Go.Proofs.Ytccnpnlmihcmlaa.GLBackMoves Go.Proofs.YtccnpnlmihcmlaaW.PrintWords Go.Proofs.YtccnpnlmihcmlaaW.PrintLast Go.Proofs.YtccnpnlmihcmlaaW.PrintMore Go.Proofs.YtccnpnlmihcmlaaW.PrintOwn
set_option linter.unusedVariables false
set_option linter.unusedSimpArgs false
theorem Ev.bindc {α β : Type} {g : Option α} {f : Nat → α → Option β} {a : α} {r : β} (h : g = some a) (k : Ev (fun n => f n a) r) : Ev (fun n => g.bind (f n)) r := by
  subst h
  exact k
/-- One round. -/
theorem Ev.round {α : Type} {g f : Nat → Option α} {r : α} (h : ∀ k, g (k + 1) = f k) (k : Ev f r) : Ev g r := Ev.step h k
theorem Ev.eqv {α : Type} {g f : Nat → Option α} {r : α} (h : ∀ k, g k = f k) (k : Ev f r) : Ev g r := Ev.congr h k
theorem Ev.cast {α : Type} {g : Nat → Option α} {r r' : α} (h : Ev g r) (e : r = r') : Ev g r' := e ▸ h
theorem Ev.ite_pos {α : Type} {c : Prop} [Decidable c] {g f : Nat → Option α} {r : α} (hc : c) (k : Ev g r) : Ev (fun n => if c then g n else f n) r := by
  refine Ev.eqv (fun n => ?_) k
  rw [if_pos hc]
theorem Ev.ite_neg {α : Type} {c : Prop} [Decidable c] {g f : Nat → Option α} {r : α} (hc : ¬ c) (k : Ev f r) : Ev (fun n => if c then g n else f n) r := by
  refine Ev.eqv (fun n => ?_) k
  rw [if_neg hc]
theorem getD_mid {α : Type} (d : α) (pre suf : List α) (x : α) : (pre ++ x :: suf).getD (pre.length : Int).toNat d = x := by
  rw [Int.toNat_natCast, List.getD_eq_getElem?_getD, List.getElem?_append_right (Nat.le_refl _), Nat.sub_self]
  rfl
theorem lt_mid {α : Type} (pre suf : List α) (x : α) : (pre.length : Int) < ((pre ++ x :: suf).length : Int) := by
  rw [List.length_append, List.length_cons]; omega
theorem in_eq (a lo hi : Int) : spec_l1In.f a lo hi = some (decide (lo ≤ a) && decide (a ≤ hi)) := by
  unfold spec_l1In.f
  by_cases h : a ≥ lo
  · rw [if_pos h]; simp [h]
  · rw [if_neg h]; simp [h]
theorem rdM_mid (pre suf : List S39) (x : S39) : rd_T39 (pre ++ x :: suf) (pre.length : Int) = x := getD_mid z39 pre suf x
def toM (x : S36) : S39 := ⟨x.f0, x.f1⟩
theorem rdW_mid (pre suf : List S36) (x : S36) : rd_T36 (pre ++ x :: suf) (pre.length : Int) = x := getD_mid z36 pre suf x
theorem ev_toMoveS_l (l : List S36) (hn : l.length ≤ 17592186044416) : ∀ (suf pre : List S36), l = pre ++ suf → ∀ (z : List S39), z.length = suf.length → Ev (fun k => laws_toMoveS.l0 k l (pre.map toM ++ z) (pre.length : Int)) (l.map toM)
  | [], pre, e, z, hz => by
    have : z = [] := List.length_eq_zero_iff.1 hz
    subst this
    refine Ev.round (f := fun _ => some (pre.map toM ++ [])) (fun k => ?_) (Ev.cast (Ev.now _) (by rw [e]; simp))
    simp only [laws_toMoveS.l0]
    rw [if_neg (by rw [e]; simp)]
  | x :: suf, pre, e, [], hz => by simp at hz
  | x :: suf, pre, e, y :: z, hz => by
    have ih := ev_toMoveS_l l hn suf (pre ++ [x]) (by rw [e]; simp) z (by simpa using hz)
    have h1 : (pre.length : Int) < (l.length : Int) := by rw [e]; exact lt_mid _ _ _
    have h2 : rd_T36 l (pre.length : Int) = x := by rw [e]; exact rdW_mid _ _ _
    have h3 : wrap64 ((pre.length : Int) + 1) = ((pre ++ [x]).length : Int) := by rw [List.length_append, List.length_singleton]; unfold wrap64; omega
    refine Ev.round (fun k => ?_) ih
    simp only [laws_toMoveS.l0]
    unfold laws_toMove.f
    rw [if_pos h1, if_pos (by omega), h2, Option.bind_some, if_pos (by simp; omega), h3]
    congr 1
    rw [Int.toNat_natCast, List.set_append_right _ _ (by simp)]
    simp [toM]
theorem ev_toMoveS (l : List S36) (hn : l.length ≤ 17592186044416) : Ev (fun k => laws_toMoveS.f k l) (l.map toM) := by
  refine Ev.eqv (fun k => ?_) (ev_toMoveS_l l hn l [] rfl (List.replicate l.length z39) (by simp))
  unfold laws_toMoveS.f
  rw [if_pos (by omega), Int.toNat_natCast, if_pos hn]
  rfl
theorem ev_eqMoveS_l (a : List S39) (hn : a.length ≤ 9223372036854775807) : ∀ (sa pa : List S39), a = pa ++ sa → Ev (fun k => laws_eqMoveS.l0 k a a (pa.length : Int)) true
  | [], pa, e => by
    refine Ev.round (f := fun _ => some true) (fun k => ?_) (Ev.now _)
    simp only [laws_eqMoveS.l0]
    rw [if_neg (by rw [e]; simp)]
  | x :: sa, pa, e => by
    have ih := ev_eqMoveS_l a hn sa (pa ++ [x]) (by rw [e]; simp)
    have h1 : (pa.length : Int) < (a.length : Int) := by rw [e]; exact lt_mid _ _ _
    have h3 : wrap64 ((pa.length : Int) + 1) = ((pa ++ [x]).length : Int) := by
      have : pa.length + 1 ≤ a.length := by omega
      rw [List.length_append, List.length_singleton]; unfold wrap64; omega
    refine Ev.round (fun k => ?_) ih
    simp only [laws_eqMoveS.l0]
    unfold laws_eqMove.f
    rw [if_pos h1, if_pos (by omega), if_pos h1, if_pos rfl, if_pos rfl, Option.bind_some, if_pos rfl, h3]
theorem ev_eqMoveS (a : List S39) (hn : a.length ≤ 9223372036854775807) : Ev (fun k => laws_eqMoveS.f k a a) true := by
  unfold laws_eqMoveS.f
  exact Ev.ite_pos rfl (ev_eqMoveS_l a hn a [] rfl)
def upM (a : Int) : Nat → List S39
  | 0 => []
  | n + 1 => ⟨a, a + 1⟩ :: upM (a + 2) n
theorem ev_markMoveT_l : ∀ (suf pre : List S39) (a : Int), 0 ≤ a → a + 2 * suf.length ≤ 4611686018427387904 → pre.length + suf.length ≤ 4611686018427387904 → Ev (fun k => laws_markMoveS.l0 k (pre ++ suf) a (pre.length : Int)) (a + 2 * suf.length, pre ++ upM a suf.length)
  | [], pre, a, h0, h1, h2 => by
    refine Ev.round (f := fun _ => some (a, pre ++ [])) (fun k => ?_) (Ev.cast (Ev.now _) (by simp [upM]))
    simp only [laws_markMoveS.l0]
    rw [if_neg (by simp)]
  | x :: suf, pre, a, h0, h1, h2 => by
    rw [List.length_cons] at h1 h2
    have ih := ev_markMoveT_l suf (pre ++ [⟨a, a + 1⟩]) (a + 2) (by omega) (by omega) (by simp; omega)
    have w1 : wrap64 (a + 1) = a + 1 := by unfold wrap64; omega
    have w2 : wrap64 (a + 1 + 1) = a + 2 := by unfold wrap64; omega
    have w3 : wrap64 ((pre.length : Int) + 1) = ((pre ++ [(⟨a, a + 1⟩ : S39)]).length : Int) := by unfold wrap64; simp; omega
    refine Ev.round (fun k => ?_) (Ev.cast ih (by rw [List.length_cons, upM]; simp; omega))
    simp only [laws_markMoveS.l0]
    have s1 : ∀ (u v : S39), (pre ++ u :: suf).set pre.length v = pre ++ v :: suf := fun u v => by rw [List.set_append_right _ _ (Nat.le_refl _), Nat.sub_self, List.set_cons_zero]
    rw [if_pos (lt_mid _ _ _), if_pos (by omega), Option.bind_some, Int.toNat_natCast, s1, s1, rdM_mid, w1, w2, w3]
    simp
theorem ev_markMoveT (l : List S39) (a : Int) (h0 : 0 ≤ a) (h1 : a + 2 * l.length ≤ 4611686018427387904) : Ev (fun k => laws_markMoveS.f k l a) (a + 2 * l.length, upM a l.length) := ev_markMoveT_l l [] a h0 h1 (by simp; omega)
theorem ev_heldMoveT_l : ∀ (n : Nat) (pre : List S39) (a : Int), 0 ≤ a → a + 2 * n ≤ 4611686018427387904 → pre.length + n ≤ 4611686018427387904 → Ev (fun k => laws_heldMoveS.l0 k (pre ++ upM a n) a (pre.length : Int)) (a + 2 * n)
  | 0, pre, a, h0, h1, h2 => by
    refine Ev.round (f := fun _ => some a) (fun k => ?_) (Ev.cast (Ev.now _) (by simp))
    simp only [laws_heldMoveS.l0]
    rw [if_neg (by simp [upM])]
  | n + 1, pre, a, h0, h1, h2 => by
    have ih := ev_heldMoveT_l n (pre ++ [⟨a, a + 1⟩]) (a + 2) (by omega) (by omega) (by simp; omega)
    have w1 : wrap64 (a + 1) = a + 1 := by unfold wrap64; omega
    have w2 : wrap64 (a + 1 + 1) = a + 2 := by unfold wrap64; omega
    have w3 : wrap64 ((pre.length : Int) + 1) = ((pre ++ [(⟨a, a + 1⟩ : S39)]).length : Int) := by unfold wrap64; simp; omega
    refine Ev.round (fun k => ?_) (Ev.cast ih (by omega))
    rw [upM]
    simp only [laws_heldMoveS.l0]
    rw [if_pos (lt_mid _ _ _), if_pos (by omega), rdM_mid, if_pos rfl, w1, if_pos rfl, w2, w3]
    simp
theorem ev_heldMoveT (a : Int) (n : Nat) (h0 : 0 ≤ a) (h1 : a + 2 * n ≤ 4611686018427387904) : Ev (fun k => laws_heldMoveS.f k (upM a n) a) (a + 2 * n) := ev_heldMoveT_l n [] a h0 h1 (by simp; omega)
end Go.Proofs.Ytccnpnlmihcmlaa.Pure
