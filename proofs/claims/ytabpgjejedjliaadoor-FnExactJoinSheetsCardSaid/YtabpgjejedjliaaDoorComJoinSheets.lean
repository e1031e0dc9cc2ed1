import Derived.Test.YtabpgjejedjliaaDoorGLJoinSheets0
import Derived.Test.YtabpgjejedjliaaDoorGLJoinSheets1
import Derived.Test.YtabpgjejedjliaaDoorGLJoinSheets10
import Derived.Test.YtabpgjejedjliaaDoorGLJoinSheets2
import Derived.Test.YtabpgjejedjliaaDoorGLJoinSheets3
import Derived.Test.YtabpgjejedjliaaDoorGLJoinSheets4
import Derived.Test.YtabpgjejedjliaaDoorGLJoinSheets5
import Derived.Test.YtabpgjejedjliaaDoorGLJoinSheets6
import Derived.Test.YtabpgjejedjliaaDoorGLJoinSheets7
import Derived.Test.YtabpgjejedjliaaDoorGLJoinSheets8
import Derived.Test.YtabpgjejedjliaaDoorGLJoinSheets9
namespace Go.Proofs.YtabpgjejedjliaaDoor.Pure
open Go.RowKit Go.Proofs.YtabpgjejedjliaaDoor.GLJoinSheets Go.Proofs.YtabpgjejedjliaaDoorW.PrintWords Go.Proofs.YtabpgjejedjliaaDoorW.PrintLast Go.Proofs.YtabpgjejedjliaaDoorW.PrintMore Go.Proofs.YtabpgjejedjliaaDoorW.PrintOwn
set_option linter.unusedVariables false
set_option linter.unusedSimpArgs false
theorem Ev.bindc {α β : Type} {g : Option α} {f : Nat → α → Option β} {a : α} {r : β} (h : g = some a) (k : Ev (fun n => f n a) r) : Ev (fun n => g.bind (f n)) r := by
  subst h
  exact k
/-- One round. -/
theorem Ev.round {α : Type} {g f : Nat → Option α} {r : α} (h : ∀ k, g (k + 1) = f k) (k : Ev f r) : Ev g r := Ev.step h k
theorem Ev.eqv {α : Type} {g f : Nat → Option α} {r : α} (h : ∀ k, g k = f k) (k : Ev f r) : Ev g r := Ev.congr h k
theorem Ev.cast {α : Type} {g : Nat → Option α} {r r' : α} (h : Ev g r) (e : r = r') : Ev g r' := e ▸ h
theorem Ev.ite_pos {α : Type} {c : Prop} [Decidable c] {g f : Nat → Option α} {r : α} (hc : c) (k : Ev g r) : Ev (fun n => if c then g n else f n) r := by
  refine Ev.eqv (fun n => ?_) k
  rw [if_pos hc]
theorem Ev.ite_neg {α : Type} {c : Prop} [Decidable c] {g f : Nat → Option α} {r : α} (hc : ¬ c) (k : Ev f r) : Ev (fun n => if c then g n else f n) r := by
  refine Ev.eqv (fun n => ?_) k
  rw [if_neg hc]
theorem getD_mid {α : Type} (d : α) (pre suf : List α) (x : α) : (pre ++ x :: suf).getD (pre.length : Int).toNat d = x := by
  rw [Int.toNat_natCast, List.getD_eq_getElem?_getD, List.getElem?_append_right (Nat.le_refl _), Nat.sub_self]
  rfl
theorem rd_mid (pre suf : List Int) (x : Int) : rd (pre ++ x :: suf) (pre.length : Int) = x := getD_mid 0 pre suf x
theorem lt_mid {α : Type} (pre suf : List α) (x : α) : (pre.length : Int) < ((pre ++ x :: suf).length : Int) := by
  rw [List.length_append, List.length_cons]; omega
theorem up_mid {α : Type} (pre suf : List α) (x : α) (h : (pre ++ x :: suf).length ≤ 9223372036854775807) : wrap64 ((pre.length : Int) + 1) = ((pre ++ [x]).length : Int) := by
  rw [List.length_append, List.length_cons] at h
  rw [List.length_append, List.length_singleton]
  unfold wrap64
  omega
theorem snoc_mid {α : Type} (pre suf : List α) (x : α) : pre ++ x :: suf = (pre ++ [x]) ++ suf := by simp
theorem Ev.need {α β : Type} [DecidableEq α] {g : Nat → Option α} {a : α} {f : Nat → Option β} {r : β} (h : Ev g a) (k : Ev f r) : Ev (fun n => if g n = some a then f n else none) r := by
  obtain ⟨m1, h1⟩ := h
  obtain ⟨m2, h2⟩ := k
  exact ⟨max m1 m2, fun n hn => by show (if g n = some a then f n else none) = some r; rw [if_pos (h1 n (by omega))]; exact h2 n (by omega)⟩
theorem in_eq (a lo hi : Int) : spec_l1In.f a lo hi = some (decide (lo ≤ a) && decide (a ≤ hi)) := by
  unfold spec_l1In.f
  by_cases h : a ≥ lo
  · rw [if_pos h]; simp [h]
  · rw [if_neg h]; simp [h]
theorem within_eq (a lo hi : Int) : impl_within.f a lo hi = some (decide (lo ≤ a) && decide (a ≤ hi)) := by
  unfold impl_within.f
  by_cases h : a ≥ lo
  · rw [if_pos h]; simp [h]
  · rw [if_neg h]; simp [h]
def azB (l : List UInt8) : Bool := l.all fun b => decide (97 ≤ b.toNat) && decide (b.toNat ≤ 122)
set_option maxRecDepth 100000 in
theorem az_nat : ∀ n, n < 256 → azCut.contains (UInt8.ofNat n) = (decide (97 ≤ n) && decide (n ≤ 122)) := by decide
theorem az_byte (b : UInt8) : azCut.contains b = (decide (97 ≤ b.toNat) && decide (b.toNat ≤ 122)) := by
  have h := az_nat b.toNat b.toNat_lt
  rw [UInt8.ofNat_toNat] at h
  exact h
theorem drop_nil {p : UInt8 → Bool} : ∀ (l : List UInt8), l.dropWhile p = [] ↔ ∀ x ∈ l, p x = true
  | [] => by simp
  | x :: l => by
    rw [List.dropWhile_cons]
    by_cases c : p x = true
    · rw [if_pos c, drop_nil l]
      simp [c]
    · rw [if_neg c]
      simp [c]
theorem drop_head {p : UInt8 → Bool} : ∀ (l : List UInt8) (x : UInt8) (t : List UInt8), l.dropWhile p = x :: t → p x = false
  | [], x, t, h => by simp at h
  | y :: l, x, t, h => by
    rw [List.dropWhile_cons] at h
    by_cases c : p y = true
    · rw [if_pos c] at h
      exact drop_head l x t h
    · rw [if_neg c] at h
      cases h
      exact Bool.eq_false_iff.2 c
theorem trim_az (l : List UInt8) : (Lib.trimS l azCut).isEmpty = azB l := by
  rw [Bool.eq_iff_iff, List.isEmpty_iff]
  unfold azB Lib.trimS Lib.trimLeftS Lib.trimRightS
  rw [List.all_eq_true, drop_nil]
  constructor
  · intro h x hx
    cases hd : l.reverse.dropWhile (azCut.contains ·) with
    | nil =>
      rw [← az_byte]
      exact (drop_nil l.reverse).1 hd x (by simpa using hx)
    | cons y t =>
      have h1 := drop_head _ _ _ hd
      have h2 := h y (by rw [hd]; simp)
      rw [h1] at h2
      cases h2
  · intro h x hx
    have hx2 : x ∈ l := by
      rw [List.mem_reverse] at hx
      have := (List.dropWhile_sublist (azCut.contains ·) (l := l.reverse)).subset hx
      simpa using this
    rw [az_byte]
    exact h x hx2
theorem bt_drop (a : ByteArray) (i : Nat) (h : i < a.size) : ∃ b : UInt8, a.data.toList.drop i = b :: a.data.toList.drop (i + 1) ∧ bt a (i : Int) = (b.toNat : Int) := by
  have h2 : i < a.data.toList.length := by simpa using h
  refine ⟨a.data.toList[i], List.drop_eq_getElem_cons h2, ?_⟩
  unfold bt
  rw [dif_pos (by simpa using h)]
  rfl
theorem ev_name_l (a : ByteArray) (hn : a.size ≤ 4611686018427387904) : ∀ (m i : Nat), i + m = a.size → Ev (fun k => spec_l3Name.l0 k a (i : Int)) (azB (a.data.toList.drop i) && (decide (1 ≤ (a.size : Int)) && decide ((a.size : Int) ≤ 8)))
  | 0, i, h => by
    have hd : a.data.toList.drop i = [] := List.drop_of_length_le (by simp; show a.size ≤ i; omega)
    rw [hd]
    refine Ev.round (fun k => by simp only [spec_l3Name.l0]; rw [if_neg (by omega)]) ?_
    exact Ev.bindc (in_eq _ _ _) (Ev.now _)
  | m + 1, i, h => by
    obtain ⟨b, hd, hb⟩ := bt_drop a i (by omega)
    have ih := ev_name_l a hn m (i + 1) (by omega)
    have hw : wrap64 ((i : Int) + 1) = ((i + 1 : Nat) : Int) := by unfold wrap64; omega
    rw [hd]
    refine Ev.round (fun k => by simp only [spec_l3Name.l0]; rw [if_pos (show (i : Int) < (a.size : Int) by omega), hb, hw]) ?_
    refine Ev.ite_pos (by omega) ?_
    have hz : azB (b :: a.data.toList.drop (i + 1)) = ((decide (97 ≤ b.toNat) && decide (b.toNat ≤ 122)) && azB (a.data.toList.drop (i + 1))) := by
      unfold azB; rw [List.all_cons]
    rw [hz]
    by_cases c : (b.toNat : Int) < 97
    · rw [decide_eq_false (show ¬ 97 ≤ b.toNat by omega)]
      exact Ev.ite_pos c (Ev.now _)
    · rw [decide_eq_true (show 97 ≤ b.toNat by omega)]
      refine Ev.ite_neg c ?_
      by_cases d : (b.toNat : Int) > 122
      · rw [decide_eq_false (show ¬ b.toNat ≤ 122 by omega)]
        exact Ev.ite_pos d (Ev.now _)
      · rw [decide_eq_true (show b.toNat ≤ 122 by omega)]
        exact Ev.ite_neg d (by simpa using ih)
theorem ev_name (a : ByteArray) (hn : a.size ≤ 4611686018427387904) : Ev (fun k => spec_l3Name.f k a) (nameB a) := by
  have h := ev_name_l a hn a.size 0 (by omega)
  refine Ev.cast h ?_
  unfold nameB
  rw [trim_az, List.drop_zero, Bool.and_comm]
theorem rdG_mid (pre suf : List S61) (g : S61) : rd_T61 (pre ++ g :: suf) (pre.length : Int) = g := getD_mid _ pre suf g
theorem goods_in (l : List S61) (n i : Int) (g : S61) (P : List S61) (hn : P.length ≤ 9223372036854775807) (R : Bool) (h : Ev (fun k => spec_GoodGoods.l0 k l l n (wrap64 (i + 1))) R) : ∀ (suf pre : List S61), P = pre ++ suf → Ev (fun k => spec_GoodGoods.l1 k l l n i P (P.length : Int) (pre.length : Int) g.f0 g.f1) (!(suf.any (impl_GoodGoods.p g)) && R)
  | [], pre, e => by
    subst e
    exact Ev.round (fun k => by simp only [spec_GoodGoods.l1]; rw [if_neg (by simp)]) (Ev.cast h (by simp))
  | x :: suf, pre, e => by
    subst e
    have ih := goods_in l n i g (pre ++ x :: suf) hn R h suf (pre ++ [x]) (snoc_mid _ _ _)
    refine Ev.round (fun k => by simp only [spec_GoodGoods.l1]; rw [if_pos (lt_mid _ _ _), rdG_mid, up_mid pre suf x hn]) ?_
    refine Ev.ite_pos (by omega) (Ev.ite_pos (lt_mid _ _ _) ?_)
    rw [List.any_cons]
    by_cases c : x.f0.toList = g.f0.toList
    · rw [show impl_GoodGoods.p g x = true from beq_iff_eq.2 c]
      exact Ev.ite_pos c (Ev.now _)
    · rw [show impl_GoodGoods.p g x = false from beq_eq_false_iff_ne.2 c]
      exact Ev.ite_neg c (by simpa using ih)
theorem goods_out (l : List S61) (hn : l.length ≤ 1048576) (hx : ∀ g ∈ l, g.f0.size ≤ 4611686018427387904) : ∀ (suf pre : List S61), l = pre ++ suf → Ev (fun k => spec_GoodGoods.l0 k l l (l.length : Int) (pre.length : Int)) (impl_GoodGoods.go pre suf && decide ((l.length : Int) ≤ 12))
  | [], pre, e => by
    subst e
    exact Ev.round (fun k => by simp only [spec_GoodGoods.l0]; rw [if_neg (by simp)]) (Ev.cast (Ev.now _) (by simp [impl_GoodGoods.go]))
  | g :: suf, pre, e => by
    have ih := goods_out l hn hx suf (pre ++ [g]) (by rw [e]; simp)
    have hlp : pre.length + (suf.length + 1) = l.length := by rw [e]; simp
    have hg := hx g (by rw [e]; simp)
    have hrd : rd_T61 l (pre.length : Int) = g := by rw [e]; exact rdG_mid _ _ _
    have htk : l.take (pre.length : Int).toNat = pre := by rw [e]; simp
    have hw : wrap64 ((pre.length : Int) + 1) = ((pre ++ [g]).length : Int) := by rw [List.length_append, List.length_singleton]; unfold wrap64; omega
    have hj : ∀ b : Bool, Ev (fun k => spec_GoodGoods.j1 k l (pre.length : Int) l (l.length : Int) (pre.length : Int) b g.f0 g.f1) (!b && (!(pre.any (impl_GoodGoods.p g)) && (impl_GoodGoods.go (pre ++ [g]) suf && decide ((l.length : Int) ≤ 12)))) := by
      intro b
      cases b with
      | true => exact Ev.round (f := fun _ => some false) (fun k => by simp only [spec_GoodGoods.j1]; rw [if_pos trivial]) (Ev.now _)
      | false =>
        refine Ev.round (fun k => by simp only [spec_GoodGoods.j1]; rw [if_neg (by decide), htk]) ?_
        refine Ev.ite_pos (by omega) (Ev.ite_pos (by omega) (Ev.bindc rfl ?_))
        rw [Bool.not_false, Bool.true_and]
        exact goods_in l _ (pre.length : Int) g pre (by omega) _ (by rw [hw]; exact ih) pre [] rfl
    refine Ev.round (fun k => by simp only [spec_GoodGoods.l0]; rw [if_pos (show (pre.length : Int) < (l.length : Int) by omega), hrd]) ?_
    refine Ev.ite_pos (by omega) (Ev.ite_pos (by omega) (Ev.bind (ev_name g.f0 hg) ?_))
    rw [impl_GoodGoods.go]
    cases nameB g.f0 with
    | true =>
      refine Ev.ite_pos rfl (Ev.bindc (in_eq _ _ _) (Ev.cast (hj _) ?_))
      cases (decide (1 ≤ g.f1) && decide (g.f1 ≤ 100)) <;> simp [Bool.and_assoc]
    | false =>
      refine Ev.ite_neg (by decide) (Ev.cast (hj _) ?_)
      simp
/-- The goods are good. -/
def goodsB (l : List S61) : Bool := impl_GoodGoods.go [] l && decide ((l.length : Int) ≤ 12)
theorem ev_GoodGoods (l : List S61) (hn : l.length ≤ 1048576) (hx : ∀ g ∈ l, g.f0.size ≤ 4611686018427387904) : Ev (fun k => spec_GoodGoods.f k l) (goodsB l) := goods_out l hn hx l [] rfl
theorem implGoodGoods (l : List S61) : impl_GoodGoods.f l = some (goodsB l) := rfl
def lineB (n : Nat) (x : S68) : Bool := (decide (0 ≤ x.f0) && decide (x.f0 ≤ (n : Int) - 1)) && (decide (1 ≤ x.f1) && decide (x.f1 ≤ 99))
theorem rdN_mid (pre suf : List S68) (g : S68) : rd_T68 (pre ++ g :: suf) (pre.length : Int) = g := getD_mid _ pre suf g
theorem sheet_l (G : List S61) (hG : G.length ≤ 1048576) (hx : ∀ g ∈ G, g.f0.size ≤ 4611686018427387904) (L : List S68) (hn : L.length ≤ 1048576) : ∀ (suf pre : List S68), L = pre ++ suf → Ev (fun k => spec_GoodSheet.l0 k L (L.length : Int) (pre.length : Int) G L) (suf.all (lineB G.length) && (goodsB G && decide ((L.length : Int) ≤ 80)))
  | [], pre, e => by
    subst e
    refine Ev.round (fun k => by simp only [spec_GoodSheet.l0]; rw [if_neg (by simp)]) (Ev.bind (ev_GoodGoods G hG hx) ?_)
    rw [List.all_nil, Bool.true_and]
    cases goodsB G with
    | true => exact Ev.ite_pos rfl (Ev.cast (Ev.now _) (by simp))
    | false => exact Ev.ite_neg (by decide) (Ev.now _)
  | x :: suf, pre, e => by
    subst e
    have ih := sheet_l G hG hx (pre ++ x :: suf) hn suf (pre ++ [x]) (snoc_mid _ _ _)
    refine Ev.round (fun k => by simp only [spec_GoodSheet.l0]; rw [if_pos (lt_mid _ _ _), rdN_mid, up_mid pre suf x (by omega)]) ?_
    refine Ev.ite_pos (by omega) (Ev.ite_pos (lt_mid _ _ _) ?_)
    rw [List.all_cons, lineB]
    by_cases c0 : x.f0 < 0
    · rw [decide_eq_false (show ¬ 0 ≤ x.f0 by omega)]
      exact Ev.ite_pos c0 (Ev.now _)
    rw [decide_eq_true (show 0 ≤ x.f0 by omega)]
    refine Ev.ite_neg c0 ?_
    by_cases c1 : x.f0 ≥ (G.length : Int)
    · rw [decide_eq_false (show ¬ x.f0 ≤ (G.length : Int) - 1 by omega)]
      exact Ev.ite_pos c1 (Ev.now _)
    rw [decide_eq_true (show x.f0 ≤ (G.length : Int) - 1 by omega)]
    refine Ev.ite_neg c1 (Ev.bindc (in_eq _ _ _) ?_)
    cases (decide (1 ≤ x.f1) && decide (x.f1 ≤ 99)) with
    | true => exact Ev.ite_pos rfl (by simpa using ih)
    | false => exact Ev.ite_neg (by decide) (Ev.now _)
theorem ev_GoodSheet (G : List S61) (hG : G.length ≤ 1048576) (hx : ∀ g ∈ G, g.f0.size ≤ 4611686018427387904) (L : List S68) (hn : L.length ≤ 1048576) : Ev (fun k => spec_GoodSheet.f k G L) (L.all (lineB G.length) && (goodsB G && decide ((L.length : Int) ≤ 80))) := sheet_l G hG hx L hn L [] rfl
theorem profile_l (G : List S61) (hG : G.length ≤ 1048576) (L : List S68) (hn : L.length ≤ 1048576) : ∀ (suf pre : List S68) (p q : List Int), L = pre ++ suf → p.length = G.length → q.length = G.length → ∃ a b, Ev (fun k => impl_ProfileOf.l0 k G L (L.length : Int) (pre.length : Int) p q) (a, b, suf.all (lineB G.length))
  | [], pre, p, q, e, _, _ => by
    subst e
    refine ⟨p, q, ?_⟩
    rw [List.all_nil]
    exact Ev.round (fun k => by simp only [impl_ProfileOf.l0]; rw [if_neg (by simp)]) (Ev.now _)
  | x :: suf, pre, p, q, e, hp, hq => by
    subst e
    have hw : wrap64 ((G.length : Int) - 1) = (G.length : Int) - 1 := by unfold wrap64; omega
    rw [List.all_cons, lineB]
    have start : ∀ {r}, Ev (fun k => (impl_within.f x.f0 0 ((G.length : Int) - 1)).bind fun t180 => (if t180 = true then ((impl_within.f x.f1 1 99).bind fun t181 => (if t181 = true then (if 0 ≤ x.f0 then (if x.f0 < (p.length : Int) then (if x.f0 < (q.length : Int) then (if x.f0 < (G.length : Int) then (impl_ProfileOf.l0 k G (pre ++ x :: suf) ((pre ++ x :: suf).length : Int) ((pre ++ [x]).length : Int) (p.set (x.f0 : Int).toNat (wrap64 ((rd p x.f0) + 1))) (q.set (x.f0 : Int).toNat (wrap64 ((rd q x.f0) + (wrap64 ((rd_T61 G x.f0).f1 * x.f1)))))) else none) else none) else none) else none) else (some (([] : List Int), ([] : List Int), false)))) else (some (([] : List Int), ([] : List Int), false)))) r → Ev (fun k => impl_ProfileOf.l0 k G (pre ++ x :: suf) ((pre ++ x :: suf).length : Int) (pre.length : Int) p q) r := fun {r} h => by
      refine Ev.round (fun k => by simp only [impl_ProfileOf.l0]; rw [if_pos (lt_mid _ _ _), rdN_mid, up_mid pre suf x (by omega), hw]) ?_
      exact Ev.ite_pos (by omega) (Ev.ite_pos (lt_mid _ _ _) h)
    cases h1 : (decide (0 ≤ x.f0) && decide (x.f0 ≤ (G.length : Int) - 1)) with
    | false => exact ⟨[], [], start (Ev.bindc (within_eq _ _ _) (by rw [h1]; exact Ev.ite_neg (by decide) (Ev.now _)))⟩
    | true =>
      have h1' := h1
      rw [Bool.and_eq_true, decide_eq_true_eq, decide_eq_true_eq] at h1'
      cases h2 : (decide (1 ≤ x.f1) && decide (x.f1 ≤ 99)) with
      | false => exact ⟨[], [], start (Ev.bindc (within_eq _ _ _) (by rw [h1]; exact Ev.ite_pos rfl (Ev.bindc (within_eq _ _ _) (by rw [h2]; exact Ev.ite_neg (by decide) (Ev.now _)))))⟩
      | true =>
        obtain ⟨a, b, ih⟩ := profile_l G hG (pre ++ x :: suf) hn suf (pre ++ [x]) (p.set (x.f0 : Int).toNat (wrap64 ((rd p x.f0) + 1))) (q.set (x.f0 : Int).toNat (wrap64 ((rd q x.f0) + (wrap64 ((rd_T61 G x.f0).f1 * x.f1))))) (snoc_mid _ _ _) (by rw [List.length_set]; exact hp) (by rw [List.length_set]; exact hq)
        refine ⟨a, b, start (Ev.bindc (within_eq _ _ _) ?_)⟩
        rw [h1]
        refine Ev.ite_pos rfl (Ev.bindc (within_eq _ _ _) ?_)
        rw [h2]
        exact Ev.ite_pos rfl (Ev.ite_pos h1'.1 (Ev.ite_pos (by omega) (Ev.ite_pos (by omega) (Ev.ite_pos (by omega) ih))))
theorem ev_implGoodSheet (G : List S61) (hG : G.length ≤ 1048576) (L : List S68) (hn : L.length ≤ 1048576) : Ev (fun k => impl_GoodSheet.f k G L) (L.all (lineB G.length) && (goodsB G && decide ((L.length : Int) ≤ 80))) := by
  unfold impl_GoodSheet.f impl_ProfileOf.f
  obtain ⟨a, b, h⟩ := profile_l G hG L hn L [] (List.replicate ((G.length : Int) : Int).toNat 0) (List.replicate ((G.length : Int) : Int).toNat 0) rfl (by simp) (by simp)
  have bad : Ev (fun k => impl_ProfileOf.j0 k G L true) ([], [], false) := Ev.round (fun k => by simp only [impl_ProfileOf.j0]; rw [if_pos trivial]) (Ev.now _)
  cases hg : goodsB G with
  | false =>
    rw [Bool.false_and, Bool.and_false]
    exact Ev.bind (Ev.bindc (implGoodGoods G) (by rw [hg]; exact Ev.ite_neg (by decide) bad)) (Ev.now _)
  | true =>
    rw [Bool.true_and]
    by_cases c : (L.length : Int) > 80
    · rw [decide_eq_false (show ¬ (L.length : Int) ≤ 80 by omega), Bool.and_false]
      refine Ev.bind (Ev.bindc (implGoodGoods G) (by rw [hg]; exact Ev.ite_pos rfl (by rw [decide_eq_true c]; exact bad))) (Ev.now _)
    · rw [decide_eq_true (show (L.length : Int) ≤ 80 by omega), Bool.and_true]
      refine Ev.bind (a := (a, b, L.all (lineB G.length))) (Ev.bindc (implGoodGoods G) ?_) (Ev.now _)
      rw [hg]
      refine Ev.ite_pos rfl ?_
      rw [decide_eq_false c]
      refine Ev.round (fun k => by simp only [impl_ProfileOf.j0]; rw [if_neg (by decide)]) ?_
      exact Ev.ite_pos (by omega) (Ev.ite_pos (by rw [Int.toNat_natCast]; omega) h)
def goodOf (g : S84) : S61 := ⟨g.f0, g.f1⟩
def lineOf (g : S87) : S68 := ⟨g.f0, g.f1⟩
theorem rdGL_mid (pre suf : List S84) (g : S84) : rd_T84 (pre ++ g :: suf) (pre.length : Int) = g := getD_mid _ pre suf g
theorem rdLL_mid (pre suf : List S87) (g : S87) : rd_T87 (pre ++ g :: suf) (pre.length : Int) = g := getD_mid _ pre suf g
theorem ev_toGoodS_l (l : List S84) (hn : l.length ≤ 1048576) : ∀ (suf pre : List S84) (z : List S61), l = pre ++ suf → z.length = suf.length → Ev (fun k => laws_toGoodS.l0 k l (pre.map goodOf ++ z) (pre.length : Int)) (l.map goodOf)
  | [], pre, z, e, hz => by
    subst e
    obtain rfl : z = [] := by simpa using hz
    exact Ev.round (fun k => by simp only [laws_toGoodS.l0]; rw [if_neg (by simp)]) (Ev.cast (Ev.now _) (by simp))
  | g :: suf, pre, z, e, hz => by
    subst e
    obtain ⟨y, z, rfl⟩ : ∃ y t, z = y :: t := by cases z with
      | nil => simp at hz
      | cons y t => exact ⟨y, t, rfl⟩
    have ih := ev_toGoodS_l (pre ++ g :: suf) hn suf (pre ++ [g]) z (snoc_mid _ _ _) (by simpa using hz)
    have hs : (pre.map goodOf ++ y :: z).set (pre.length : Int).toNat (⟨g.f0, g.f1⟩ : S61) = (pre ++ [g]).map goodOf ++ z := by
      rw [Int.toNat_natCast, List.set_append_right _ _ (by simp)]
      simp [goodOf]
    refine Ev.round (fun k => by simp only [laws_toGoodS.l0]; rw [if_pos (lt_mid _ _ _), rdGL_mid, up_mid pre suf g (by omega)]) ?_
    refine Ev.ite_pos (by omega) (Ev.bindc rfl (Ev.ite_pos (by simp; omega) ?_))
    rw [hs]
    exact ih
theorem ev_toGoodS (l : List S84) (hn : l.length ≤ 1048576) : Ev (fun k => laws_toGoodS.f k l) (l.map goodOf) := by
  unfold laws_toGoodS.f
  exact Ev.ite_pos (by omega) (Ev.ite_pos (by omega) (ev_toGoodS_l l hn l [] _ rfl (by simp)))
theorem ev_toLineS_l (l : List S87) (hn : l.length ≤ 1048576) : ∀ (suf pre : List S87) (z : List S68), l = pre ++ suf → z.length = suf.length → Ev (fun k => laws_toLineS.l0 k l (pre.map lineOf ++ z) (pre.length : Int)) (l.map lineOf)
  | [], pre, z, e, hz => by
    subst e
    obtain rfl : z = [] := by simpa using hz
    exact Ev.round (fun k => by simp only [laws_toLineS.l0]; rw [if_neg (by simp)]) (Ev.cast (Ev.now _) (by simp))
  | g :: suf, pre, z, e, hz => by
    subst e
    obtain ⟨y, z, rfl⟩ : ∃ y t, z = y :: t := by cases z with
      | nil => simp at hz
      | cons y t => exact ⟨y, t, rfl⟩
    have ih := ev_toLineS_l (pre ++ g :: suf) hn suf (pre ++ [g]) z (snoc_mid _ _ _) (by simpa using hz)
    have hs : (pre.map lineOf ++ y :: z).set (pre.length : Int).toNat (⟨g.f0, g.f1⟩ : S68) = (pre ++ [g]).map lineOf ++ z := by
      rw [Int.toNat_natCast, List.set_append_right _ _ (by simp)]
      simp [lineOf]
    refine Ev.round (fun k => by simp only [laws_toLineS.l0]; rw [if_pos (lt_mid _ _ _), rdLL_mid, up_mid pre suf g (by omega)]) ?_
    refine Ev.ite_pos (by omega) (Ev.bindc rfl (Ev.ite_pos (by simp; omega) ?_))
    rw [hs]
    exact ih
theorem ev_toLineS (l : List S87) (hn : l.length ≤ 1048576) : Ev (fun k => laws_toLineS.f k l) (l.map lineOf) := by
  unfold laws_toLineS.f
  exact Ev.ite_pos (by omega) (Ev.ite_pos (by omega) (ev_toLineS_l l hn l [] _ rfl (by simp)))
theorem ev_toSheet (G : List S84) (L : List S87) (hG : G.length ≤ 1048576) (hL : L.length ≤ 1048576) : Ev (fun k => laws_toSheet.f k G L) (G.map goodOf, L.map lineOf) := by
  unfold laws_toSheet.f
  exact Ev.bind (ev_toGoodS G hG) (Ev.bind (ev_toLineS L hL) (Ev.now _))
theorem ev_eqGoodS_l (l : List S61) (hn : l.length ≤ 1048576) : ∀ (suf pre : List S61), l = pre ++ suf → Ev (fun k => laws_eqGoodS.l0 k l l (pre.length : Int)) true
  | [], pre, e => by
    subst e
    exact Ev.round (fun k => by simp only [laws_eqGoodS.l0]; rw [if_neg (by simp)]) (Ev.now _)
  | g :: suf, pre, e => by
    subst e
    have ih := ev_eqGoodS_l (pre ++ g :: suf) hn suf (pre ++ [g]) (snoc_mid _ _ _)
    refine Ev.round (fun k => by simp only [laws_eqGoodS.l0]; rw [if_pos (lt_mid _ _ _), rdG_mid, up_mid pre suf g (by omega)]) ?_
    refine Ev.ite_pos (by omega) (Ev.ite_pos (lt_mid _ _ _) (Ev.bindc (show laws_eqGood.f g.f0 g.f1 g.f0 g.f1 = some true by unfold laws_eqGood.f; rw [if_pos rfl, if_pos rfl]) (Ev.ite_pos rfl ih)))
theorem ev_eqLineS_l (l : List S68) (hn : l.length ≤ 1048576) : ∀ (suf pre : List S68), l = pre ++ suf → Ev (fun k => laws_eqLineS.l0 k l l (pre.length : Int)) true
  | [], pre, e => by
    subst e
    exact Ev.round (fun k => by simp only [laws_eqLineS.l0]; rw [if_neg (by simp)]) (Ev.now _)
  | g :: suf, pre, e => by
    subst e
    have ih := ev_eqLineS_l (pre ++ g :: suf) hn suf (pre ++ [g]) (snoc_mid _ _ _)
    refine Ev.round (fun k => by simp only [laws_eqLineS.l0]; rw [if_pos (lt_mid _ _ _), show rd_T68 (pre ++ g :: suf) (pre.length : Int) = g from getD_mid _ pre suf g, up_mid pre suf g (by omega)]) ?_
    refine Ev.ite_pos (by omega) (Ev.ite_pos (lt_mid _ _ _) (Ev.bindc (show laws_eqLine.f g.f0 g.f1 g.f0 g.f1 = some true by unfold laws_eqLine.f; rw [if_pos rfl, if_pos rfl]) (Ev.ite_pos rfl ih)))
theorem ev_eqSheet (G : List S61) (L : List S68) (hG : G.length ≤ 1048576) (hL : L.length ≤ 1048576) : Ev (fun k => laws_eqSheet.f k G L G L) true := by
  unfold laws_eqSheet.f laws_eqGoodS.f laws_eqLineS.f
  exact Ev.bind (Ev.ite_pos rfl (ev_eqGoodS_l G hG G [] rfl)) (Ev.ite_pos rfl (Ev.bind (Ev.ite_pos rfl (ev_eqLineS_l L hL L [] rfl)) (Ev.ite_pos rfl (Ev.now _))))
theorem ev_szGoodS_l (l : List S84) (hn : l.length ≤ 1048576) (hx : ∀ g ∈ l, g.f0.size ≤ 9223372036854775807) : ∀ (suf pre : List S84) (a : Int), l = pre ++ suf → 0 ≤ a → a ≤ 1048576 → ∃ t, t ≤ 1048576 ∧ Ev (fun k => laws_szGoodS.l0 k l a (pre.length : Int)) t ∧ (¬ t < 0 → ∀ g ∈ suf, g.f0.size ≤ 1048576)
  | [], pre, a, e, h0, h1 => by
    subst e
    exact ⟨a, h1, Ev.round (fun k => by simp only [laws_szGoodS.l0]; rw [if_neg (by simp)]) (Ev.now _), by simp⟩
  | g :: suf, pre, a, e, h0, h1 => by
    subst e
    have hg := hx g (by simp)
    have hw : wrap64 (a - (g.f0.size : Int)) = a - g.f0.size := by unfold wrap64; omega
    by_cases c : a - (g.f0.size : Int) < 0
    · refine ⟨-1, by omega, ?_, by omega⟩
      refine Ev.round (fun k => by simp only [laws_szGoodS.l0]; rw [if_pos (lt_mid _ _ _), rdGL_mid]) ?_
      exact Ev.ite_pos (by omega) (Ev.bindc (show laws_szGood.f g.f0 g.f1 a = some (-1) by unfold laws_szGood.f; rw [hw, if_pos c]) (Ev.ite_pos (by decide) (Ev.now _)))
    · obtain ⟨t, ht, ih, hh⟩ := ev_szGoodS_l (pre ++ g :: suf) hn hx suf (pre ++ [g]) (a - g.f0.size) (snoc_mid _ _ _) (by omega) (by omega)
      refine ⟨t, ht, ?_, fun h x hxm => ?_⟩
      · refine Ev.round (fun k => by simp only [laws_szGoodS.l0]; rw [if_pos (lt_mid _ _ _), rdGL_mid, up_mid pre suf g (by omega)]) ?_
        exact Ev.ite_pos (by omega) (Ev.bindc (show laws_szGood.f g.f0 g.f1 a = some (a - g.f0.size) by unfold laws_szGood.f; rw [hw, if_neg c]) (Ev.ite_neg c ih))
      · rcases List.mem_cons.1 hxm with rfl | hxm
        · omega
        · exact hh h x hxm
theorem idxP_nil {α : Type} (p : α → Bool) : idxP p [] = -1 := rfl
theorem idxP_cons {α : Type} (p : α → Bool) (x : α) (l : List α) : idxP p (x :: l) = if p x = true then 0 else if idxP p l = -1 then -1 else idxP p l + 1 := by
  unfold idxP
  rw [List.findIdx?_cons]
  cases p x with
  | true => simp
  | false =>
    simp only [Bool.false_eq_true, if_false]
    cases h : l.findIdx? p with
    | none => simp
    | some i =>
      have : ¬ ((i : Int) = -1) := by omega
      simp [this]
theorem idxP_ge {α : Type} (p : α → Bool) (l : List α) : -1 ≤ idxP p l := by
  unfold idxP
  split <;> omega
theorem ev_find_l (l : List S61) (a : ByteArray) (hn : l.length ≤ 1048576) : ∀ (suf pre : List S61), l = pre ++ suf → Ev (fun k => spec_l15Find.l0 k a l (l.length : Int) (pre.length : Int)) (if idxP (impl_Sheet_find.p a) suf = -1 then -1 else (pre.length : Int) + idxP (impl_Sheet_find.p a) suf)
  | [], pre, e => by
    subst e
    exact Ev.round (fun k => by simp only [spec_l15Find.l0]; rw [if_neg (by simp)]) (Ev.cast (Ev.now _) (by rw [idxP_nil, if_pos rfl]))
  | x :: suf, pre, e => by
    subst e
    refine Ev.round (fun k => by simp only [spec_l15Find.l0]; rw [if_pos (lt_mid _ _ _), rdG_mid, up_mid pre suf x (by omega)]) ?_
    refine Ev.ite_pos (by omega) (Ev.ite_pos (lt_mid _ _ _) ?_)
    rw [idxP_cons]
    by_cases c : x.f0.toList = a.toList
    · rw [show impl_Sheet_find.p a x = true from beq_iff_eq.2 c, if_pos rfl, if_neg (by omega)]
      exact Ev.ite_pos c (Ev.cast (Ev.now _) (by omega))
    · have ih := ev_find_l (pre ++ x :: suf) a hn suf (pre ++ [x]) (snoc_mid _ _ _)
      have hg := idxP_ge (impl_Sheet_find.p a) suf
      rw [show impl_Sheet_find.p a x = false from beq_eq_false_iff_ne.2 c]
      simp only [Bool.false_eq_true, if_false]
      refine Ev.ite_neg c (Ev.cast ih ?_)
      rw [List.length_append, List.length_singleton]
      by_cases e : idxP (impl_Sheet_find.p a) suf = -1
      · rw [if_pos e, if_pos e, if_pos rfl]
      · rw [if_neg e, if_neg e, if_neg (by omega)]
        omega
theorem ev_find (l : List S61) (a : ByteArray) (hn : l.length ≤ 1048576) : Ev (fun k => spec_l15Find.f k l a) (idxP (impl_Sheet_find.p a) l) :=
  Ev.cast (ev_find_l l a hn l [] rfl) (by have := idxP_ge (impl_Sheet_find.p a) l; split <;> simp_all)
theorem idxP_found {α : Type} (p : α → Bool) : ∀ (l m : List α), 0 ≤ idxP p l → idxP p (l ++ m) = idxP p l
  | [], m, h => by rw [idxP_nil] at h; omega
  | x :: l, m, h => by
    rw [idxP_cons] at h
    rw [List.cons_append, idxP_cons, idxP_cons]
    by_cases c : p x = true
    · rw [if_pos c, if_pos c]
    · rw [if_neg c] at h
      by_cases d : idxP p l = -1
      · rw [if_pos d] at h; omega
      · rw [idxP_found p l m (by have := idxP_ge p l; omega)]
theorem idxP_new {α : Type} (p : α → Bool) (y : α) (hy : p y = true) : ∀ (l : List α), idxP p l < 0 → idxP p (l ++ [y]) = (l.length : Int)
  | [], _ => by rw [List.nil_append, idxP_cons, if_pos hy]; rfl
  | x :: l, h => by
    rw [idxP_cons] at h
    rw [List.cons_append, idxP_cons]
    by_cases c : p x = true
    · rw [if_pos c] at h; omega
    · rw [if_neg c] at h
      have hg := idxP_ge p l
      by_cases d : idxP p l = -1
      · rw [if_neg c, idxP_new p y hy l (by omega), if_neg (by omega), List.length_cons]; omega
      · rw [if_neg d] at h; omega
theorem idxP_lt {α : Type} (p : α → Bool) : ∀ (l : List α), idxP p l < (l.length : Int)
  | [] => by rw [idxP_nil]; simp
  | x :: l => by
    have ih := idxP_lt p l
    rw [idxP_cons, List.length_cons]
    split
    · omega
    · split <;> omega
theorem at_split {α : Type} (l : List α) (i : Int) (h0 : 0 ≤ i) (h1 : i < (l.length : Int)) : ∃ p x s, l = p ++ x :: s ∧ (p.length : Int) = i := by
  refine ⟨l.take i.toNat, l[i.toNat]'(by omega), l.drop (i.toNat + 1), ?_, ?_⟩
  · rw [List.getElem_cons_drop, List.take_append_drop]
  · rw [List.length_take]; omega
abbrev nameAt (O : List S61) (g : S61) : Int := idxP (impl_Sheet_find.p g.f0) O
theorem rd_nameAt (B O : List S61) (i : Int) (h0 : 0 ≤ i) (h1 : i < (B.length : Int)) : rd (B.map (nameAt O)) i = nameAt O (rd_T61 B i) := by
  obtain ⟨p, x, s, rfl, rfl⟩ := at_split B i h0 h1
  rw [rdG_mid, List.map_append, List.map_cons]
  have := rd_mid (p.map (nameAt O)) (s.map (nameAt O)) (nameAt O x)
  rw [List.length_map] at this
  exact this
theorem join_l1 (B O : List S61) (hO : O.length ≤ 1048576) (hx : ∀ g ∈ O, g.f0.size ≤ 4611686018427387904) (L : List S68) (hn : L.length ≤ 1048576) : ∀ (suf pre P : List S68), L = pre ++ suf → (∀ x ∈ suf, lineB B.length x = true) → P.length + suf.length ≤ 1048576 → ∃ (a : List S61) (b : List S68) (c : Bool), a.length ≤ 1048576 ∧ b.length ≤ 1048576 ∧ Ev (fun k => spec_JoinSheets.l1 k L (L.length : Int) (pre.length : Int) B L O P) (a, b, c) ∧ Ev (fun k => impl_JoinSheets.l1 k (B.map (nameAt O)) L (L.length : Int) (pre.length : Int) O P) (a, b, c)
  | [], pre, P, e, _, hP => by
    subst e
    have h1 := ev_GoodSheet O hO hx P (by simpa using hP)
    have h2 := ev_implGoodSheet O hO P (by simpa using hP)
    cases c : (P.all (lineB O.length) && (goodsB O && decide ((P.length : Int) ≤ 80))) with
    | true =>
      rw [c] at h1 h2
      exact ⟨O, P, true, hO, by simpa using hP, Ev.round (fun k => by simp only [spec_JoinSheets.l1]; rw [if_neg (by simp)]) (Ev.bind h1 (Ev.ite_pos rfl (Ev.now _))), Ev.round (fun k => by simp only [impl_JoinSheets.l1]; rw [if_neg (by simp)]) (Ev.bind h2 (Ev.ite_pos rfl (Ev.now _)))⟩
    | false =>
      rw [c] at h1 h2
      exact ⟨[], [], false, by simp, by simp, Ev.round (fun k => by simp only [spec_JoinSheets.l1]; rw [if_neg (by simp)]) (Ev.bind h1 (Ev.ite_neg (show ¬ (false = true) by decide) (Ev.now _))), Ev.round (fun k => by simp only [impl_JoinSheets.l1]; rw [if_neg (by simp)]) (Ev.bind h2 (Ev.ite_neg (show ¬ (false = true) by decide) (Ev.now _)))⟩
  | x :: suf, pre, P, e, hB, hP => by
    subst e
    have hb := hB x (by simp)
    rw [lineB, Bool.and_eq_true, Bool.and_eq_true, decide_eq_true_eq, decide_eq_true_eq] at hb
    obtain ⟨a, b, c, ha, hb', h1, h2⟩ := join_l1 B O hO hx (pre ++ x :: suf) hn suf (pre ++ [x]) (P ++ [(⟨nameAt O (rd_T61 B x.f0), x.f1⟩ : S68)]) (snoc_mid _ _ _) (fun y hy => hB y (by simp [hy])) (by rw [List.length_append, List.length_singleton]; rw [List.length_cons] at hP; omega)
    rw [List.length_cons] at hP
    refine ⟨a, b, c, ha, hb', ?_, ?_⟩
    · refine Ev.round (fun k => by simp only [spec_JoinSheets.l1]; rw [if_pos (lt_mid _ _ _), rdN_mid, up_mid pre suf x (by omega)]) ?_
      exact Ev.ite_pos (by omega) (Ev.ite_pos (lt_mid _ _ _) (Ev.ite_pos hb.1.1 (Ev.ite_pos (by omega) (Ev.bind (ev_find O _ hO) (Ev.ite_pos (by omega) h1)))))
    · refine Ev.round (fun k => by simp only [impl_JoinSheets.l1]; rw [if_pos (lt_mid _ _ _), rdN_mid, up_mid pre suf x (by omega), rd_nameAt B O x.f0 hb.1.1 (by omega)]) ?_
      exact Ev.ite_pos (by omega) (Ev.ite_pos (lt_mid _ _ _) (Ev.ite_pos hb.1.1 (Ev.ite_pos (by rw [List.length_map]; omega) (Ev.ite_pos (by omega) h2))))
theorem join_l0 (B : List S61) (hB : B.length ≤ 1048576) (hx : ∀ g ∈ B, g.f0.size ≤ 4611686018427387904) (L : List S68) (hn : L.length ≤ 1048576) (hL : ∀ x ∈ L, lineB B.length x = true) (P : List S68) (hP : P.length + L.length ≤ 1048576) : ∀ (suf pre O : List S61), B = pre ++ suf → O.length + suf.length ≤ 1048576 → (∀ g ∈ O, g.f0.size ≤ 4611686018427387904) → (∀ g ∈ pre, 0 ≤ nameAt O g) → ∃ (a : List S61) (b : List S68) (c : Bool), a.length ≤ 1048576 ∧ b.length ≤ 1048576 ∧ Ev (fun k => spec_JoinSheets.l0 k B (B.length : Int) (pre.length : Int) B L O P) (a, b, c) ∧ Ev (fun k => impl_JoinSheets.l0 k (pre.map (nameAt O)) B (B.length : Int) (pre.length : Int) B L O P) (a, b, c)
  | [], pre, O, e, hO, hxO, _ => by
    subst e
    rw [List.append_nil] at hL ⊢
    obtain ⟨a, b, c, ha, hb, h1, h2⟩ := join_l1 pre O (by simpa using hO) hxO L hn L [] P rfl hL hP
    exact ⟨a, b, c, ha, hb, Ev.round (fun k => by simp only [spec_JoinSheets.l0]; rw [if_neg (by simp)]; rfl) h1, Ev.round (fun k => by simp only [impl_JoinSheets.l0]; rw [if_neg (by simp)]; rfl) h2⟩
  | g :: suf, pre, O, e, hO, hxO, hpre => by
    subst e
    rw [List.length_cons] at hO
    have hf := ev_find O g.f0 (by omega)
    have hlt := idxP_lt (impl_Sheet_find.p g.f0) O
    have hself : impl_Sheet_find.p g.f0 g = true := beq_iff_eq.2 rfl
    have up := up_mid pre suf g (by omega)
    by_cases c : idxP (impl_Sheet_find.p g.f0) O < 0
    · have hnew := idxP_new (impl_Sheet_find.p g.f0) g hself O c
      have hmap : (pre ++ [g]).map (nameAt (O ++ [g])) = pre.map (nameAt O) ++ [(O.length : Int)] := by
        rw [List.map_append, List.map_cons, List.map_nil]
        congr 1
        · exact List.map_congr_left fun x hx => idxP_found _ _ _ (hpre x hx)
        · rw [show nameAt (O ++ [g]) g = (O.length : Int) from hnew]
      obtain ⟨a, b, d, ha, hb, h1, h2⟩ := join_l0 (pre ++ g :: suf) hB hx L hn hL P hP suf (pre ++ [g]) (O ++ [g]) (snoc_mid _ _ _) (by rw [List.length_append, List.length_singleton]; omega) (fun y hy => (List.mem_append.1 hy).elim (hxO y) (fun h => by rw [List.mem_singleton.1 h]; exact hx g (by simp))) (fun y hy => (List.mem_append.1 hy).elim (fun h => by rw [show nameAt (O ++ [g]) y = nameAt O y from idxP_found _ _ _ (hpre y h)]; exact hpre y h) (fun h => by rw [List.mem_singleton.1 h, show nameAt (O ++ [g]) g = (O.length : Int) from hnew]; omega))
      rw [hmap] at h2
      refine ⟨a, b, d, ha, hb, ?_, ?_⟩
      · refine Ev.round (fun k => by simp only [spec_JoinSheets.l0]; rw [if_pos (lt_mid _ _ _), rdG_mid, up]) ?_
        exact Ev.ite_pos (by omega) (Ev.ite_pos (lt_mid _ _ _) (Ev.bind hf (Ev.ite_pos c (Ev.ite_pos (by omega) h1))))
      · refine Ev.round (fun k => by simp only [impl_JoinSheets.l0]; rw [if_pos (lt_mid _ _ _), rdG_mid, up]) ?_
        refine Ev.ite_pos (by omega) (Ev.ite_pos (lt_mid _ _ _) (Ev.bindc rfl (Ev.ite_pos c (Ev.ite_pos (by omega) (Ev.bindc rfl ?_)))))
        refine Ev.ite_pos (by omega) (Ev.ite_pos (lt_mid O [] g) (Ev.ite_pos ?_ (Ev.ite_pos (by rw [List.length_map]; rw [List.length_append, List.length_cons] at hB; omega) h2)))
        rw [show rd_T61 (O ++ [(⟨g.f0, g.f1⟩ : S61)]) (O.length : Int) = g from rdG_mid O [] g]
    · by_cases d : (rd_T61 O (idxP (impl_Sheet_find.p g.f0) O)).f1 = g.f1
      · have hmap : (pre ++ [g]).map (nameAt O) = pre.map (nameAt O) ++ [idxP (impl_Sheet_find.p g.f0) O] := by
          rw [List.map_append, List.map_cons, List.map_nil]
        obtain ⟨a, b, r, ha, hb, h1, h2⟩ := join_l0 (pre ++ g :: suf) hB hx L hn hL P hP suf (pre ++ [g]) O (snoc_mid _ _ _) (by omega) hxO (fun y hy => (List.mem_append.1 hy).elim (hpre y) (fun h => by rw [List.mem_singleton.1 h]; exact Int.not_lt.1 c))
        rw [hmap] at h2
        refine ⟨a, b, r, ha, hb, ?_, ?_⟩
        · refine Ev.round (fun k => by simp only [spec_JoinSheets.l0]; rw [if_pos (lt_mid _ _ _), rdG_mid, up]) ?_
          exact Ev.ite_pos (by omega) (Ev.ite_pos (lt_mid _ _ _) (Ev.bind hf (Ev.ite_neg c (Ev.ite_pos (by omega) (Ev.ite_pos hlt (Ev.ite_pos d h1))))))
        · refine Ev.round (fun k => by simp only [impl_JoinSheets.l0]; rw [if_pos (lt_mid _ _ _), rdG_mid, up]) ?_
          exact Ev.ite_pos (by omega) (Ev.ite_pos (lt_mid _ _ _) (Ev.bindc rfl (Ev.ite_neg c (Ev.ite_pos (by omega) (Ev.ite_pos hlt (Ev.ite_pos d (Ev.ite_pos (by rw [List.length_map]; rw [List.length_append, List.length_cons] at hB; omega) h2)))))))
      · refine ⟨[], [], false, by simp, by simp, ?_, ?_⟩
        · refine Ev.round (fun k => by simp only [spec_JoinSheets.l0]; rw [if_pos (lt_mid _ _ _), rdG_mid, up]) ?_
          exact Ev.ite_pos (by omega) (Ev.ite_pos (lt_mid _ _ _) (Ev.bind hf (Ev.ite_neg c (Ev.ite_pos (by omega) (Ev.ite_pos hlt (Ev.ite_neg d (Ev.now _)))))))
        · refine Ev.round (fun k => by simp only [impl_JoinSheets.l0]; rw [if_pos (lt_mid _ _ _), rdG_mid, up]) ?_
          exact Ev.ite_pos (by omega) (Ev.ite_pos (lt_mid _ _ _) (Ev.bindc rfl (Ev.ite_neg c (Ev.ite_pos (by omega) (Ev.ite_pos hlt (Ev.ite_neg d (Ev.now _)))))))
theorem same_Join (G : List S61) (L : List S68) (G2 : List S61) (L2 : List S68) (hG : G.length ≤ 1048576) (hL : L.length ≤ 1048576) (hx : ∀ g ∈ G, g.f0.size ≤ 4611686018427387904) (hG2 : G2.length ≤ 1048576) (hL2 : L2.length ≤ 1048576) (hx2 : ∀ g ∈ G2, g.f0.size ≤ 4611686018427387904) : ∃ (a : List S61) (b : List S68) (c : Bool), a.length ≤ 1048576 ∧ b.length ≤ 1048576 ∧ Ev (fun k => spec_JoinSheets.f k G L G2 L2) (a, b, c) ∧ Ev (fun k => impl_JoinSheets.f k G L G2 L2) (a, b, c) := by
  unfold spec_JoinSheets.f impl_JoinSheets.f
  have h1 := ev_GoodSheet G hG hx L hL
  have h2 := ev_implGoodSheet G hG L hL
  have h3 := ev_GoodSheet G2 hG2 hx2 L2 hL2
  have h4 := ev_implGoodSheet G2 hG2 L2 hL2
  have bad1 : Ev (fun k => spec_JoinSheets.j0 k true G L G2 L2) ([], [], false) := Ev.round (fun k => by simp only [spec_JoinSheets.j0]; rw [if_pos trivial]) (Ev.now _)
  have bad2 : Ev (fun k => impl_JoinSheets.j0 k true G L G2 L2) ([], [], false) := Ev.round (fun k => by simp only [impl_JoinSheets.j0]; rw [if_pos trivial]) (Ev.now _)
  cases c : (L.all (lineB G.length) && (goodsB G && decide ((L.length : Int) ≤ 80))) with
  | false =>
    rw [c] at h1 h2
    exact ⟨[], [], false, by simp, by simp, Ev.bind h1 (Ev.ite_neg (by decide) bad1), Ev.bind h2 (Ev.ite_neg (by decide) bad2)⟩
  | true =>
    rw [c] at h1 h2
    cases d : (L2.all (lineB G2.length) && (goodsB G2 && decide ((L2.length : Int) ≤ 80))) with
    | false =>
      rw [d] at h3 h4
      exact ⟨[], [], false, by simp, by simp, Ev.bind h1 (Ev.ite_pos rfl (Ev.bind h3 bad1)), Ev.bind h2 (Ev.ite_pos rfl (Ev.bind h4 bad2))⟩
    | true =>
      rw [d] at h3 h4
      simp only [goodsB, Bool.and_eq_true, decide_eq_true_eq, List.all_eq_true] at c d
      obtain ⟨a, b, r, ha, hb, e1, e2⟩ := join_l0 G2 hG2 hx2 L2 hL2 d.1 L (by omega) G2 [] G rfl (by omega) hx (fun g hg => absurd hg (by simp))
      refine ⟨a, b, r, ha, hb, Ev.bind h1 (Ev.ite_pos rfl (Ev.bind h3 ?_)), Ev.bind h2 (Ev.ite_pos rfl (Ev.bind h4 ?_))⟩
      · refine Ev.round (fun k => by simp only [spec_JoinSheets.j0]; rw [if_neg (by decide)]) ?_
        exact Ev.bindc rfl (Ev.ite_pos (by simp; omega) (Ev.bindc rfl (Ev.ite_pos (by simp; omega) e1)))
      · refine Ev.round (fun k => by simp only [impl_JoinSheets.j0]; rw [if_neg (by decide)]) ?_
        exact Ev.bindc (show impl_Good_47.f G = some G by unfold impl_Good_47.f; rw [if_pos (by omega)]) (Ev.bindc (show impl_Line.f L = some L by unfold impl_Line.f; rw [if_pos (by omega)]) e2)
theorem ev_markText_l : ∀ (n : Nat) (a : Int) (x : ByteArray), 0 ≤ a → a.toNat ≤ n → x.size + a.toNat ≤ 9223372036854775800 → ∃ r, Ev (fun k => laws_markText.l0 k a x) r
  | 0, a, x, h0, hn, hx => ⟨_, Ev.round (fun k => by simp only [laws_markText.l0]; rw [if_neg (by omega), if_pos (by omega)]) (Ev.now _)⟩
  | n + 1, a, x, h0, hn, hx => by
    by_cases c : a > 0
    · have hd : Int.tdiv a 10 = a / 10 := Int.tdiv_eq_ediv_of_nonneg h0
      have hw : wrap64 (Int.tdiv a 10) = a / 10 := by rw [hd]; unfold wrap64; omega
      have hs : (strOfNums [(wrap64 (48 + (Int.tmod a 10))) % 256]).size = 1 := rfl
      obtain ⟨r, hr⟩ := ev_markText_l n (a / 10) (strOfNums [(wrap64 (48 + (Int.tmod a 10))) % 256] ++ x) (by omega) (by omega) (by rw [ByteArray.size_append, hs]; omega)
      refine ⟨r, ?_⟩
      refine Ev.round (fun k => by simp only [laws_markText.l0]; rw [if_pos c, hw]) ?_
      refine Ev.bindc rfl ?_
      exact Ev.ite_pos (by rw [hs]; omega) hr
    · exact ⟨_, Ev.round (fun k => by simp only [laws_markText.l0]; rw [if_neg c, if_pos (by omega)]) (Ev.now _)⟩
theorem markText_ex (a : Int) (h0 : 0 ≤ a) (h1 : a ≤ 4611686018427387904) : ∃ r, Ev (fun k => laws_markText.f k a) r := by
  unfold laws_markText.f
  by_cases c : a ≤ 0
  · exact ⟨_, Ev.ite_pos c (Ev.now _)⟩
  · obtain ⟨r, hr⟩ := ev_markText_l a.toNat a ⟨#[]⟩ h0 (Nat.le_refl _) (by show 0 + a.toNat ≤ _; omega)
    exact ⟨r, Ev.ite_neg c hr⟩
noncomputable def txt (a : Int) : ByteArray := Classical.epsilon fun r => Ev (fun k => laws_markText.f k a) r
theorem ev_txt (a : Int) (h0 : 0 ≤ a) (h1 : a ≤ 4611686018427387904) : Ev (fun k => laws_markText.f k a) (txt a) := Classical.epsilon_spec (markText_ex a h0 h1)

noncomputable def upG (a : Int) : Nat → List S61
  | 0 => []
  | n + 1 => ⟨txt a, a + 1⟩ :: upG (a + 2) n
def upL (a : Int) : Nat → List S68
  | 0 => []
  | n + 1 => ⟨a, a + 1⟩ :: upL (a + 2) n
theorem set_mid {α : Type} (pre suf : List α) (x y : α) : (pre ++ x :: suf).set (pre.length : Int).toNat y = pre ++ y :: suf := by
  rw [Int.toNat_natCast, List.set_append_right _ _ (Nat.le_refl _), Nat.sub_self, List.set_cons_zero]
theorem ev_markGoodS_l : ∀ (suf pre : List S61) (a : Int), 0 ≤ a → a + 2 * suf.length ≤ 4611686018427387000 → pre.length + suf.length ≤ 4611686018427387904 → Ev (fun k => laws_markGoodS.l0 k (pre ++ suf) a (pre.length : Int)) (a + 2 * suf.length, pre ++ upG a suf.length)
  | [], pre, a, h0, h1, h2 => Ev.round (fun k => by simp only [laws_markGoodS.l0]; rw [if_neg (by simp)]) (Ev.cast (Ev.now _) (by simp [upG]))
  | x :: suf, pre, a, h0, h1, h2 => by
    rw [List.length_cons] at h1 h2
    have hw : wrap64 (a + 1) = a + 1 := by unfold wrap64; omega
    have hw1 : wrap64 (a + 1 + 1) = a + 2 := by unfold wrap64; omega
    have ih := ev_markGoodS_l suf (pre ++ [(⟨txt a, a + 1⟩ : S61)]) (a + 2) (by omega) (by omega) (by simp; omega)
    refine Ev.round (fun k => by simp only [laws_markGoodS.l0]; rw [if_pos (lt_mid _ _ _), hw, hw1, up_mid pre suf x (by simp; omega)]) ?_
    refine Ev.bind (ev_txt a h0 (by omega)) (Ev.ite_pos (by omega) (Ev.bindc rfl ?_))
    rw [rdG_mid, set_mid, rdG_mid, set_mid]
    refine Ev.cast (Ev.eqv (fun k => ?_) ih) (by rw [List.length_cons, upG]; simp; omega)
    rw [List.length_append, List.length_append, List.append_assoc]
    rfl
theorem ev_markLineS_l : ∀ (suf pre : List S68) (a : Int), 0 ≤ a → a + 2 * suf.length ≤ 4611686018427387000 → pre.length + suf.length ≤ 4611686018427387904 → Ev (fun k => laws_markLineS.l0 k (pre ++ suf) a (pre.length : Int)) (a + 2 * suf.length, pre ++ upL a suf.length)
  | [], pre, a, h0, h1, h2 => Ev.round (fun k => by simp only [laws_markLineS.l0]; rw [if_neg (by simp)]) (Ev.cast (Ev.now _) (by simp [upL]))
  | x :: suf, pre, a, h0, h1, h2 => by
    rw [List.length_cons] at h1 h2
    have hw : wrap64 (a + 1) = a + 1 := by unfold wrap64; omega
    have hw1 : wrap64 (a + 1 + 1) = a + 2 := by unfold wrap64; omega
    have ih := ev_markLineS_l suf (pre ++ [(⟨a, a + 1⟩ : S68)]) (a + 2) (by omega) (by omega) (by simp; omega)
    refine Ev.round (fun k => by simp only [laws_markLineS.l0]; rw [if_pos (lt_mid _ _ _), hw, hw1, up_mid pre suf x (by simp; omega)]) ?_
    refine Ev.ite_pos (by omega) (Ev.bindc rfl ?_)
    rw [rdN_mid, set_mid, rdN_mid, set_mid]
    refine Ev.cast (Ev.eqv (fun k => ?_) ih) (by rw [List.length_cons, upL]; simp; omega)
    rw [List.length_append, List.length_append, List.append_assoc]
    rfl
theorem ev_heldGoodS_l : ∀ (n : Nat) (pre : List S61) (a : Int), 0 ≤ a → a + 2 * n ≤ 4611686018427387000 → pre.length + n ≤ 4611686018427387904 → Ev (fun k => laws_heldGoodS.l0 k (pre ++ upG a n) a (pre.length : Int)) (a + 2 * n)
  | 0, pre, a, h0, h1, h2 => by
    rw [upG]
    refine Ev.round (f := fun _ => some a) (fun k => ?_) (Ev.cast (Ev.now _) (by simp))
    simp only [laws_heldGoodS.l0]
    rw [if_neg (by simp)]
  | n + 1, pre, a, h0, h1, h2 => by
    have hw : wrap64 (a + 1) = a + 1 := by unfold wrap64; omega
    have hw1 : wrap64 (a + 1 + 1) = a + 2 := by unfold wrap64; omega
    have ih := ev_heldGoodS_l n (pre ++ [(⟨txt a, a + 1⟩ : S61)]) (a + 2) (by omega) (by omega) (by simp; omega)
    have hl : (upG (a + 2) n).length = n := by
      have : ∀ (n : Nat) (a : Int), (upG a n).length = n := fun n => by
        induction n with
        | zero => intro a; rfl
        | succ n ih => intro a; rw [upG, List.length_cons, ih]
      exact this n _
    rw [upG]
    refine Ev.round (fun k => by simp only [laws_heldGoodS.l0]; rw [if_pos (lt_mid pre (upG (a + 2) n) (⟨txt a, a + 1⟩ : S61)), hw, hw1, rdG_mid, up_mid pre (upG (a + 2) n) (⟨txt a, a + 1⟩ : S61) (by simp [hl]; omega)]) ?_
    refine Ev.ite_pos (by omega) (Ev.bind (ev_txt a h0 (by omega)) (Ev.ite_pos rfl (Ev.ite_pos rfl ?_)))
    refine Ev.cast (Ev.eqv (fun k => ?_) ih) (by simp; omega)
    rw [List.append_assoc]
    rfl
theorem ev_heldLineS_l : ∀ (n : Nat) (pre : List S68) (a : Int), 0 ≤ a → a + 2 * n ≤ 4611686018427387000 → pre.length + n ≤ 4611686018427387904 → Ev (fun k => laws_heldLineS.l0 k (pre ++ upL a n) a (pre.length : Int)) (a + 2 * n)
  | 0, pre, a, h0, h1, h2 => by
    rw [upL]
    refine Ev.round (f := fun _ => some a) (fun k => ?_) (Ev.cast (Ev.now _) (by simp))
    simp only [laws_heldLineS.l0]
    rw [if_neg (by simp)]
  | n + 1, pre, a, h0, h1, h2 => by
    have hw : wrap64 (a + 1) = a + 1 := by unfold wrap64; omega
    have hw1 : wrap64 (a + 1 + 1) = a + 2 := by unfold wrap64; omega
    have ih := ev_heldLineS_l n (pre ++ [(⟨a, a + 1⟩ : S68)]) (a + 2) (by omega) (by omega) (by simp; omega)
    have hl : (upL (a + 2) n).length = n := by
      have : ∀ (n : Nat) (a : Int), (upL a n).length = n := fun n => by
        induction n with
        | zero => intro a; rfl
        | succ n ih => intro a; rw [upL, List.length_cons, ih]
      exact this n _
    rw [upL]
    refine Ev.round (fun k => by simp only [laws_heldLineS.l0]; rw [if_pos (lt_mid pre (upL (a + 2) n) (⟨a, a + 1⟩ : S68)), hw, hw1, rdN_mid, up_mid pre (upL (a + 2) n) (⟨a, a + 1⟩ : S68) (by simp [hl]; omega)]) ?_
    refine Ev.ite_pos (by omega) (Ev.ite_pos rfl (Ev.ite_pos rfl ?_))
    refine Ev.cast (Ev.eqv (fun k => ?_) ih) (by simp; omega)
    rw [List.append_assoc]
    rfl
theorem ev_markSheet (G : List S61) (L : List S68) (a : Int) (h0 : 0 ≤ a) (h1 : a ≤ 1073741824) (hG : G.length ≤ 1048576) (hL : L.length ≤ 1048576) : Ev (fun k => laws_markSheet.f k G L a) (a + 2 * G.length + 2 * L.length, upG a G.length, upL (a + 2 * G.length) L.length) := by
  unfold laws_markSheet.f laws_markGoodS.f laws_markLineS.f
  exact Ev.bind (ev_markGoodS_l G [] a h0 (by omega) (by simp; omega)) (Ev.bind (ev_markLineS_l L [] (a + 2 * G.length) (by omega) (by omega) (by simp; omega)) (Ev.now _))
theorem ev_heldSheet (m n : Nat) (a : Int) (h0 : 0 ≤ a) (h1 : a ≤ 1073741824) (hG : m ≤ 1048576) (hL : n ≤ 1048576) : Ev (fun k => laws_heldSheet.f k (upG a m) (upL (a + 2 * m) n) a) (a + 2 * m + 2 * n) := by
  unfold laws_heldSheet.f laws_heldGoodS.f laws_heldLineS.f
  exact Ev.bind (ev_heldGoodS_l m [] a h0 (by omega) (by simp; omega)) (Ev.ite_neg (by omega) (Ev.bind (ev_heldLineS_l n [] (a + 2 * m) (by omega) (by omega) (by simp; omega)) (Ev.ite_neg (by omega) (Ev.now _))))
theorem ev_szSheet2 (G : List S84) (L : List S87) (b : Int) (hb0 : 0 ≤ b) (hb : b ≤ 1048576) (hG : G.length ≤ 9223372036854775807) (hL : L.length ≤ 9223372036854775807) (hx : ∀ g ∈ G, g.f0.size ≤ 9223372036854775807) : ∃ t, t ≤ 1048576 ∧ Ev (fun k => laws_szSheet.f k G L b) t ∧ (¬ t < 0 → G.length ≤ 1048576 ∧ L.length ≤ 1048576 ∧ ∀ g ∈ G, g.f0.size ≤ 1048576) := by
  unfold laws_szSheet.f laws_szGoodS.f
  have hw : wrap64 (b - (G.length : Int)) = b - G.length := by unfold wrap64; omega
  rw [hw]
  by_cases c : b - (G.length : Int) < 0
  · exact ⟨-1, by omega, Ev.bind (Ev.ite_pos c (Ev.now _)) (Ev.ite_pos (by decide) (Ev.now _)), by omega⟩
  · obtain ⟨t, ht, h, hh⟩ := ev_szGoodS_l G (by omega) hx G [] (b - G.length) rfl (by omega) (by omega)
    by_cases d : t < 0
    · exact ⟨-1, by omega, Ev.bind (Ev.ite_neg c h) (Ev.ite_pos d (Ev.now _)), by omega⟩
    · have hw2 : wrap64 (t - (L.length : Int)) = t - L.length := by unfold wrap64; omega
      by_cases e : t - (L.length : Int) < 0
      · refine ⟨-1, by omega, Ev.bind (Ev.ite_neg c h) (Ev.ite_neg d (Ev.bindc (show laws_szLineS.f L t = some (-1) by unfold laws_szLineS.f; rw [hw2, if_pos e]) (Ev.ite_pos (by decide) (Ev.now _)))), by omega⟩
      · exact ⟨t - L.length, by omega, Ev.bind (Ev.ite_neg c h) (Ev.ite_neg d (Ev.bindc (show laws_szLineS.f L t = some (t - L.length) by unfold laws_szLineS.f; rw [hw2, if_neg e]) (Ev.ite_neg e (Ev.now _)))), fun _ => ⟨by omega, by omega, hh d⟩⟩
end Go.Proofs.YtabpgjejedjliaaDoor.Pure
