import Derived.Test.YtabpgjejedjliaaDoorGLPrintSheet0
import Derived.Test.YtabpgjejedjliaaDoorGLPrintSheet1
import Derived.Test.YtabpgjejedjliaaDoorGLPrintSheet2
import Derived.Test.YtabpgjejedjliaaDoorGLPrintSheet3
import Derived.Test.YtabpgjejedjliaaDoorGLPrintSheet4
import Derived.Test.YtabpgjejedjliaaDoorGLPrintSheet5
import Derived.Test.YtabpgjejedjliaaDoorGLPrintSheet6
import Derived.Test.YtabpgjejedjliaaDoorGLPrintSheet7
import Derived.Test.YtabpgjejedjliaaDoorGLPrintSheet8
namespace Go.Proofs.YtabpgjejedjliaaDoor.Pure
open Go.RowKit Go.Proofs.YtabpgjejedjliaaDoor.GLPrintSheet Go.Proofs.YtabpgjejedjliaaDoorW.PrintWords Go.Proofs.YtabpgjejedjliaaDoorW.PrintLast Go.Proofs.YtabpgjejedjliaaDoorW.PrintMore Go.Proofs.YtabpgjejedjliaaDoorW.PrintOwn
set_option linter.unusedVariables false
set_option linter.unusedSimpArgs false
theorem Ev.bindc {α β : Type} {g : Option α} {f : Nat → α → Option β} {a : α} {r : β} (h : g = some a) (k : Ev (fun n => f n a) r) : Ev (fun n => g.bind (f n)) r := by
  subst h
  exact k
/-- One round. -/
theorem Ev.round {α : Type} {g f : Nat → Option α} {r : α} (h : ∀ k, g (k + 1) = f k) (k : Ev f r) : Ev g r := Ev.step h k
theorem Ev.eqv {α : Type} {g f : Nat → Option α} {r : α} (h : ∀ k, g k = f k) (k : Ev f r) : Ev g r := Ev.congr h k
theorem Ev.cast {α : Type} {g : Nat → Option α} {r r' : α} (h : Ev g r) (e : r = r') : Ev g r' := e ▸ h
theorem Ev.ite_pos {α : Type} {c : Prop} [Decidable c] {g f : Nat → Option α} {r : α} (hc : c) (k : Ev g r) : Ev (fun n => if c then g n else f n) r := by
  refine Ev.eqv (fun n => ?_) k
  rw [if_pos hc]
theorem Ev.ite_neg {α : Type} {c : Prop} [Decidable c] {g f : Nat → Option α} {r : α} (hc : ¬ c) (k : Ev f r) : Ev (fun n => if c then g n else f n) r := by
  refine Ev.eqv (fun n => ?_) k
  rw [if_neg hc]
theorem getD_mid {α : Type} (d : α) (pre suf : List α) (x : α) : (pre ++ x :: suf).getD (pre.length : Int).toNat d = x := by
  rw [Int.toNat_natCast, List.getD_eq_getElem?_getD, List.getElem?_append_right (Nat.le_refl _), Nat.sub_self]
  rfl
theorem lt_mid {α : Type} (pre suf : List α) (x : α) : (pre.length : Int) < ((pre ++ x :: suf).length : Int) := by
  rw [List.length_append, List.length_cons]; omega
theorem up_mid {α : Type} (pre suf : List α) (x : α) (h : (pre ++ x :: suf).length ≤ 9223372036854775807) : wrap64 ((pre.length : Int) + 1) = ((pre ++ [x]).length : Int) := by
  rw [List.length_append, List.length_cons] at h
  rw [List.length_append, List.length_singleton]
  unfold wrap64
  omega
theorem snoc_mid {α : Type} (pre suf : List α) (x : α) : pre ++ x :: suf = (pre ++ [x]) ++ suf := by simp
theorem in_eq (a lo hi : Int) : spec_l1In.f a lo hi = some (decide (lo ≤ a) && decide (a ≤ hi)) := by
  unfold spec_l1In.f
  by_cases h : a ≥ lo
  · rw [if_pos h]; simp [h]
  · rw [if_neg h]; simp [h]
theorem within_eq (a lo hi : Int) : impl_within.f a lo hi = some (decide (lo ≤ a) && decide (a ≤ hi)) := by
  unfold impl_within.f
  by_cases h : a ≥ lo
  · rw [if_pos h]; simp [h]
  · rw [if_neg h]; simp [h]
def azB (l : List UInt8) : Bool := l.all fun b => decide (97 ≤ b.toNat) && decide (b.toNat ≤ 122)
set_option maxRecDepth 100000 in
theorem az_nat : ∀ n, n < 256 → azCut.contains (UInt8.ofNat n) = (decide (97 ≤ n) && decide (n ≤ 122)) := by decide
theorem az_byte (b : UInt8) : azCut.contains b = (decide (97 ≤ b.toNat) && decide (b.toNat ≤ 122)) := by
  have h := az_nat b.toNat b.toNat_lt
  rw [UInt8.ofNat_toNat] at h
  exact h
theorem drop_nil {p : UInt8 → Bool} : ∀ (l : List UInt8), l.dropWhile p = [] ↔ ∀ x ∈ l, p x = true
  | [] => by simp
  | x :: l => by
    rw [List.dropWhile_cons]
    by_cases c : p x = true
    · rw [if_pos c, drop_nil l]
      simp [c]
    · rw [if_neg c]
      simp [c]
theorem drop_head {p : UInt8 → Bool} : ∀ (l : List UInt8) (x : UInt8) (t : List UInt8), l.dropWhile p = x :: t → p x = false
  | [], x, t, h => by simp at h
  | y :: l, x, t, h => by
    rw [List.dropWhile_cons] at h
    by_cases c : p y = true
    · rw [if_pos c] at h
      exact drop_head l x t h
    · rw [if_neg c] at h
      cases h
      exact Bool.eq_false_iff.2 c
theorem trim_az (l : List UInt8) : (Lib.trimS l azCut).isEmpty = azB l := by
  rw [Bool.eq_iff_iff, List.isEmpty_iff]
  unfold azB Lib.trimS Lib.trimLeftS Lib.trimRightS
  rw [List.all_eq_true, drop_nil]
  constructor
  · intro h x hx
    cases hd : l.reverse.dropWhile (azCut.contains ·) with
    | nil =>
      rw [← az_byte]
      exact (drop_nil l.reverse).1 hd x (by simpa using hx)
    | cons y t =>
      have h1 := drop_head _ _ _ hd
      have h2 := h y (by rw [hd]; simp)
      rw [h1] at h2
      cases h2
  · intro h x hx
    have hx2 : x ∈ l := by
      rw [List.mem_reverse] at hx
      have := (List.dropWhile_sublist (azCut.contains ·) (l := l.reverse)).subset hx
      simpa using this
    rw [az_byte]
    exact h x hx2
theorem bt_drop (a : ByteArray) (i : Nat) (h : i < a.size) : ∃ b : UInt8, a.data.toList.drop i = b :: a.data.toList.drop (i + 1) ∧ bt a (i : Int) = (b.toNat : Int) := by
  have h2 : i < a.data.toList.length := by simpa using h
  refine ⟨a.data.toList[i], List.drop_eq_getElem_cons h2, ?_⟩
  unfold bt
  rw [dif_pos (by simpa using h)]
  rfl
theorem ev_name_l (a : ByteArray) (hn : a.size ≤ 4611686018427387904) : ∀ (m i : Nat), i + m = a.size → Ev (fun k => spec_l3Name.l0 k a (i : Int)) (azB (a.data.toList.drop i) && (decide (1 ≤ (a.size : Int)) && decide ((a.size : Int) ≤ 8)))
  | 0, i, h => by
    have hd : a.data.toList.drop i = [] := List.drop_of_length_le (by simp; show a.size ≤ i; omega)
    rw [hd]
    refine Ev.round (fun k => by simp only [spec_l3Name.l0]; rw [if_neg (by omega)]) ?_
    exact Ev.bindc (in_eq _ _ _) (Ev.now _)
  | m + 1, i, h => by
    obtain ⟨b, hd, hb⟩ := bt_drop a i (by omega)
    have ih := ev_name_l a hn m (i + 1) (by omega)
    have hw : wrap64 ((i : Int) + 1) = ((i + 1 : Nat) : Int) := by unfold wrap64; omega
    rw [hd]
    refine Ev.round (fun k => by simp only [spec_l3Name.l0]; rw [if_pos (show (i : Int) < (a.size : Int) by omega), hb, hw]) ?_
    refine Ev.ite_pos (by omega) ?_
    have hz : azB (b :: a.data.toList.drop (i + 1)) = ((decide (97 ≤ b.toNat) && decide (b.toNat ≤ 122)) && azB (a.data.toList.drop (i + 1))) := by
      unfold azB; rw [List.all_cons]
    rw [hz]
    by_cases c : (b.toNat : Int) < 97
    · rw [decide_eq_false (show ¬ 97 ≤ b.toNat by omega)]
      exact Ev.ite_pos c (Ev.now _)
    · rw [decide_eq_true (show 97 ≤ b.toNat by omega)]
      refine Ev.ite_neg c ?_
      by_cases d : (b.toNat : Int) > 122
      · rw [decide_eq_false (show ¬ b.toNat ≤ 122 by omega)]
        exact Ev.ite_pos d (Ev.now _)
      · rw [decide_eq_true (show b.toNat ≤ 122 by omega)]
        exact Ev.ite_neg d (by simpa using ih)
theorem ev_name (a : ByteArray) (hn : a.size ≤ 4611686018427387904) : Ev (fun k => spec_l3Name.f k a) (nameB a) := by
  have h := ev_name_l a hn a.size 0 (by omega)
  refine Ev.cast h ?_
  unfold nameB
  rw [trim_az, List.drop_zero, Bool.and_comm]
theorem rdG_mid (pre suf : List S61) (g : S61) : rd_T61 (pre ++ g :: suf) (pre.length : Int) = g := getD_mid _ pre suf g
theorem goods_in (l : List S61) (n i : Int) (g : S61) (P : List S61) (hn : P.length ≤ 9223372036854775807) (R : Bool) (h : Ev (fun k => spec_GoodGoods.l0 k l l n (wrap64 (i + 1))) R) : ∀ (suf pre : List S61), P = pre ++ suf → Ev (fun k => spec_GoodGoods.l1 k l l n i P (P.length : Int) (pre.length : Int) g.f0 g.f1) (!(suf.any (impl_GoodGoods.p g)) && R)
  | [], pre, e => by
    subst e
    exact Ev.round (fun k => by simp only [spec_GoodGoods.l1]; rw [if_neg (by simp)]) (Ev.cast h (by simp))
  | x :: suf, pre, e => by
    subst e
    have ih := goods_in l n i g (pre ++ x :: suf) hn R h suf (pre ++ [x]) (snoc_mid _ _ _)
    refine Ev.round (fun k => by simp only [spec_GoodGoods.l1]; rw [if_pos (lt_mid _ _ _), rdG_mid, up_mid pre suf x hn]) ?_
    refine Ev.ite_pos (by omega) (Ev.ite_pos (lt_mid _ _ _) ?_)
    rw [List.any_cons]
    by_cases c : x.f0.toList = g.f0.toList
    · rw [show impl_GoodGoods.p g x = true from beq_iff_eq.2 c]
      exact Ev.ite_pos c (Ev.now _)
    · rw [show impl_GoodGoods.p g x = false from beq_eq_false_iff_ne.2 c]
      exact Ev.ite_neg c (by simpa using ih)
theorem goods_out (l : List S61) (hn : l.length ≤ 1048576) (hx : ∀ g ∈ l, g.f0.size ≤ 4611686018427387904) : ∀ (suf pre : List S61), l = pre ++ suf → Ev (fun k => spec_GoodGoods.l0 k l l (l.length : Int) (pre.length : Int)) (impl_GoodGoods.go pre suf && decide ((l.length : Int) ≤ 12))
  | [], pre, e => by
    subst e
    exact Ev.round (fun k => by simp only [spec_GoodGoods.l0]; rw [if_neg (by simp)]) (Ev.cast (Ev.now _) (by simp [impl_GoodGoods.go]))
  | g :: suf, pre, e => by
    have ih := goods_out l hn hx suf (pre ++ [g]) (by rw [e]; simp)
    have hlp : pre.length + (suf.length + 1) = l.length := by rw [e]; simp
    have hg := hx g (by rw [e]; simp)
    have hrd : rd_T61 l (pre.length : Int) = g := by rw [e]; exact rdG_mid _ _ _
    have htk : l.take (pre.length : Int).toNat = pre := by rw [e]; simp
    have hw : wrap64 ((pre.length : Int) + 1) = ((pre ++ [g]).length : Int) := by rw [List.length_append, List.length_singleton]; unfold wrap64; omega
    have hj : ∀ b : Bool, Ev (fun k => spec_GoodGoods.j1 k l (pre.length : Int) l (l.length : Int) (pre.length : Int) b g.f0 g.f1) (!b && (!(pre.any (impl_GoodGoods.p g)) && (impl_GoodGoods.go (pre ++ [g]) suf && decide ((l.length : Int) ≤ 12)))) := by
      intro b
      cases b with
      | true => exact Ev.round (f := fun _ => some false) (fun k => by simp only [spec_GoodGoods.j1]; rw [if_pos trivial]) (Ev.now _)
      | false =>
        refine Ev.round (fun k => by simp only [spec_GoodGoods.j1]; rw [if_neg (by decide), htk]) ?_
        refine Ev.ite_pos (by omega) (Ev.ite_pos (by omega) (Ev.bindc rfl ?_))
        rw [Bool.not_false, Bool.true_and]
        exact goods_in l _ (pre.length : Int) g pre (by omega) _ (by rw [hw]; exact ih) pre [] rfl
    refine Ev.round (fun k => by simp only [spec_GoodGoods.l0]; rw [if_pos (show (pre.length : Int) < (l.length : Int) by omega), hrd]) ?_
    refine Ev.ite_pos (by omega) (Ev.ite_pos (by omega) (Ev.bind (ev_name g.f0 hg) ?_))
    rw [impl_GoodGoods.go]
    cases nameB g.f0 with
    | true =>
      refine Ev.ite_pos rfl (Ev.bindc (in_eq _ _ _) (Ev.cast (hj _) ?_))
      cases (decide (1 ≤ g.f1) && decide (g.f1 ≤ 100)) <;> simp [Bool.and_assoc]
    | false =>
      refine Ev.ite_neg (by decide) (Ev.cast (hj _) ?_)
      simp
/-- The goods are good. -/
def goodsB (l : List S61) : Bool := impl_GoodGoods.go [] l && decide ((l.length : Int) ≤ 12)
theorem ev_GoodGoods (l : List S61) (hn : l.length ≤ 1048576) (hx : ∀ g ∈ l, g.f0.size ≤ 4611686018427387904) : Ev (fun k => spec_GoodGoods.f k l) (goodsB l) := goods_out l hn hx l [] rfl
theorem implGoodGoods (l : List S61) : impl_GoodGoods.f l = some (goodsB l) := rfl
def lineB (n : Nat) (x : S68) : Bool := (decide (0 ≤ x.f0) && decide (x.f0 ≤ (n : Int) - 1)) && (decide (1 ≤ x.f1) && decide (x.f1 ≤ 99))
theorem rdN_mid (pre suf : List S68) (g : S68) : rd_T68 (pre ++ g :: suf) (pre.length : Int) = g := getD_mid _ pre suf g
theorem sheet_l (G : List S61) (hG : G.length ≤ 1048576) (hx : ∀ g ∈ G, g.f0.size ≤ 4611686018427387904) (L : List S68) (hn : L.length ≤ 1048576) : ∀ (suf pre : List S68), L = pre ++ suf → Ev (fun k => spec_GoodSheet.l0 k L (L.length : Int) (pre.length : Int) G L) (suf.all (lineB G.length) && (goodsB G && decide ((L.length : Int) ≤ 80)))
  | [], pre, e => by
    subst e
    refine Ev.round (fun k => by simp only [spec_GoodSheet.l0]; rw [if_neg (by simp)]) (Ev.bind (ev_GoodGoods G hG hx) ?_)
    rw [List.all_nil, Bool.true_and]
    cases goodsB G with
    | true => exact Ev.ite_pos rfl (Ev.cast (Ev.now _) (by simp))
    | false => exact Ev.ite_neg (by decide) (Ev.now _)
  | x :: suf, pre, e => by
    subst e
    have ih := sheet_l G hG hx (pre ++ x :: suf) hn suf (pre ++ [x]) (snoc_mid _ _ _)
    refine Ev.round (fun k => by simp only [spec_GoodSheet.l0]; rw [if_pos (lt_mid _ _ _), rdN_mid, up_mid pre suf x (by omega)]) ?_
    refine Ev.ite_pos (by omega) (Ev.ite_pos (lt_mid _ _ _) ?_)
    rw [List.all_cons, lineB]
    by_cases c0 : x.f0 < 0
    · rw [decide_eq_false (show ¬ 0 ≤ x.f0 by omega)]
      exact Ev.ite_pos c0 (Ev.now _)
    rw [decide_eq_true (show 0 ≤ x.f0 by omega)]
    refine Ev.ite_neg c0 ?_
    by_cases c1 : x.f0 ≥ (G.length : Int)
    · rw [decide_eq_false (show ¬ x.f0 ≤ (G.length : Int) - 1 by omega)]
      exact Ev.ite_pos c1 (Ev.now _)
    rw [decide_eq_true (show x.f0 ≤ (G.length : Int) - 1 by omega)]
    refine Ev.ite_neg c1 (Ev.bindc (in_eq _ _ _) ?_)
    cases (decide (1 ≤ x.f1) && decide (x.f1 ≤ 99)) with
    | true => exact Ev.ite_pos rfl (by simpa using ih)
    | false => exact Ev.ite_neg (by decide) (Ev.now _)
theorem ev_GoodSheet (G : List S61) (hG : G.length ≤ 1048576) (hx : ∀ g ∈ G, g.f0.size ≤ 4611686018427387904) (L : List S68) (hn : L.length ≤ 1048576) : Ev (fun k => spec_GoodSheet.f k G L) (L.all (lineB G.length) && (goodsB G && decide ((L.length : Int) ≤ 80))) := sheet_l G hG hx L hn L [] rfl
theorem profile_l (G : List S61) (hG : G.length ≤ 1048576) (L : List S68) (hn : L.length ≤ 1048576) : ∀ (suf pre : List S68) (p q : List Int), L = pre ++ suf → p.length = G.length → q.length = G.length → ∃ a b, Ev (fun k => impl_ProfileOf.l0 k G L (L.length : Int) (pre.length : Int) p q) (a, b, suf.all (lineB G.length))
  | [], pre, p, q, e, _, _ => by
    subst e
    refine ⟨p, q, ?_⟩
    rw [List.all_nil]
    exact Ev.round (fun k => by simp only [impl_ProfileOf.l0]; rw [if_neg (by simp)]) (Ev.now _)
  | x :: suf, pre, p, q, e, hp, hq => by
    subst e
    have hw : wrap64 ((G.length : Int) - 1) = (G.length : Int) - 1 := by unfold wrap64; omega
    rw [List.all_cons, lineB]
    have start : ∀ {r}, Ev (fun k => (impl_within.f x.f0 0 ((G.length : Int) - 1)).bind fun t180 => (if t180 = true then ((impl_within.f x.f1 1 99).bind fun t181 => (if t181 = true then (if 0 ≤ x.f0 then (if x.f0 < (p.length : Int) then (if x.f0 < (q.length : Int) then (if x.f0 < (G.length : Int) then (impl_ProfileOf.l0 k G (pre ++ x :: suf) ((pre ++ x :: suf).length : Int) ((pre ++ [x]).length : Int) (p.set (x.f0 : Int).toNat (wrap64 ((rd p x.f0) + 1))) (q.set (x.f0 : Int).toNat (wrap64 ((rd q x.f0) + (wrap64 ((rd_T61 G x.f0).f1 * x.f1)))))) else none) else none) else none) else none) else (some (([] : List Int), ([] : List Int), false)))) else (some (([] : List Int), ([] : List Int), false)))) r → Ev (fun k => impl_ProfileOf.l0 k G (pre ++ x :: suf) ((pre ++ x :: suf).length : Int) (pre.length : Int) p q) r := fun {r} h => by
      refine Ev.round (fun k => by simp only [impl_ProfileOf.l0]; rw [if_pos (lt_mid _ _ _), rdN_mid, up_mid pre suf x (by omega), hw]) ?_
      exact Ev.ite_pos (by omega) (Ev.ite_pos (lt_mid _ _ _) h)
    cases h1 : (decide (0 ≤ x.f0) && decide (x.f0 ≤ (G.length : Int) - 1)) with
    | false => exact ⟨[], [], start (Ev.bindc (within_eq _ _ _) (by rw [h1]; exact Ev.ite_neg (by decide) (Ev.now _)))⟩
    | true =>
      have h1' := h1
      rw [Bool.and_eq_true, decide_eq_true_eq, decide_eq_true_eq] at h1'
      cases h2 : (decide (1 ≤ x.f1) && decide (x.f1 ≤ 99)) with
      | false => exact ⟨[], [], start (Ev.bindc (within_eq _ _ _) (by rw [h1]; exact Ev.ite_pos rfl (Ev.bindc (within_eq _ _ _) (by rw [h2]; exact Ev.ite_neg (by decide) (Ev.now _)))))⟩
      | true =>
        obtain ⟨a, b, ih⟩ := profile_l G hG (pre ++ x :: suf) hn suf (pre ++ [x]) (p.set (x.f0 : Int).toNat (wrap64 ((rd p x.f0) + 1))) (q.set (x.f0 : Int).toNat (wrap64 ((rd q x.f0) + (wrap64 ((rd_T61 G x.f0).f1 * x.f1))))) (snoc_mid _ _ _) (by rw [List.length_set]; exact hp) (by rw [List.length_set]; exact hq)
        refine ⟨a, b, start (Ev.bindc (within_eq _ _ _) ?_)⟩
        rw [h1]
        refine Ev.ite_pos rfl (Ev.bindc (within_eq _ _ _) ?_)
        rw [h2]
        exact Ev.ite_pos rfl (Ev.ite_pos h1'.1 (Ev.ite_pos (by omega) (Ev.ite_pos (by omega) (Ev.ite_pos (by omega) ih))))
theorem ev_implGoodSheet (G : List S61) (hG : G.length ≤ 1048576) (L : List S68) (hn : L.length ≤ 1048576) : Ev (fun k => impl_GoodSheet.f k G L) (L.all (lineB G.length) && (goodsB G && decide ((L.length : Int) ≤ 80))) := by
  unfold impl_GoodSheet.f impl_ProfileOf.f
  obtain ⟨a, b, h⟩ := profile_l G hG L hn L [] (List.replicate ((G.length : Int) : Int).toNat 0) (List.replicate ((G.length : Int) : Int).toNat 0) rfl (by simp) (by simp)
  have bad : Ev (fun k => impl_ProfileOf.j0 k G L true) ([], [], false) := Ev.round (fun k => by simp only [impl_ProfileOf.j0]; rw [if_pos trivial]) (Ev.now _)
  cases hg : goodsB G with
  | false =>
    rw [Bool.false_and, Bool.and_false]
    exact Ev.bind (Ev.bindc (implGoodGoods G) (by rw [hg]; exact Ev.ite_neg (by decide) bad)) (Ev.now _)
  | true =>
    rw [Bool.true_and]
    by_cases c : (L.length : Int) > 80
    · rw [decide_eq_false (show ¬ (L.length : Int) ≤ 80 by omega), Bool.and_false]
      refine Ev.bind (Ev.bindc (implGoodGoods G) (by rw [hg]; exact Ev.ite_pos rfl (by rw [decide_eq_true c]; exact bad))) (Ev.now _)
    · rw [decide_eq_true (show (L.length : Int) ≤ 80 by omega), Bool.and_true]
      refine Ev.bind (a := (a, b, L.all (lineB G.length))) (Ev.bindc (implGoodGoods G) ?_) (Ev.now _)
      rw [hg]
      refine Ev.ite_pos rfl ?_
      rw [decide_eq_false c]
      refine Ev.round (fun k => by simp only [impl_ProfileOf.j0]; rw [if_neg (by decide)]) ?_
      exact Ev.ite_pos (by omega) (Ev.ite_pos (by rw [Int.toNat_natCast]; omega) h)
def goodOf (g : S84) : S61 := ⟨g.f0, g.f1⟩
def lineOf (g : S87) : S68 := ⟨g.f0, g.f1⟩
theorem rdGL_mid (pre suf : List S84) (g : S84) : rd_T84 (pre ++ g :: suf) (pre.length : Int) = g := getD_mid _ pre suf g
theorem rdLL_mid (pre suf : List S87) (g : S87) : rd_T87 (pre ++ g :: suf) (pre.length : Int) = g := getD_mid _ pre suf g
theorem ev_toGoodS_l (l : List S84) (hn : l.length ≤ 1048576) : ∀ (suf pre : List S84) (z : List S61), l = pre ++ suf → z.length = suf.length → Ev (fun k => laws_toGoodS.l0 k l (pre.map goodOf ++ z) (pre.length : Int)) (l.map goodOf)
  | [], pre, z, e, hz => by
    subst e
    obtain rfl : z = [] := by simpa using hz
    exact Ev.round (fun k => by simp only [laws_toGoodS.l0]; rw [if_neg (by simp)]) (Ev.cast (Ev.now _) (by simp))
  | g :: suf, pre, z, e, hz => by
    subst e
    obtain ⟨y, z, rfl⟩ : ∃ y t, z = y :: t := by cases z with
      | nil => simp at hz
      | cons y t => exact ⟨y, t, rfl⟩
    have ih := ev_toGoodS_l (pre ++ g :: suf) hn suf (pre ++ [g]) z (snoc_mid _ _ _) (by simpa using hz)
    have hs : (pre.map goodOf ++ y :: z).set (pre.length : Int).toNat (⟨g.f0, g.f1⟩ : S61) = (pre ++ [g]).map goodOf ++ z := by
      rw [Int.toNat_natCast, List.set_append_right _ _ (by simp)]
      simp [goodOf]
    refine Ev.round (fun k => by simp only [laws_toGoodS.l0]; rw [if_pos (lt_mid _ _ _), rdGL_mid, up_mid pre suf g (by omega)]) ?_
    refine Ev.ite_pos (by omega) (Ev.bindc rfl (Ev.ite_pos (by simp; omega) ?_))
    rw [hs]
    exact ih
theorem ev_toGoodS (l : List S84) (hn : l.length ≤ 1048576) : Ev (fun k => laws_toGoodS.f k l) (l.map goodOf) := by
  unfold laws_toGoodS.f
  exact Ev.ite_pos (by omega) (Ev.ite_pos (by omega) (ev_toGoodS_l l hn l [] _ rfl (by simp)))
theorem ev_toLineS_l (l : List S87) (hn : l.length ≤ 1048576) : ∀ (suf pre : List S87) (z : List S68), l = pre ++ suf → z.length = suf.length → Ev (fun k => laws_toLineS.l0 k l (pre.map lineOf ++ z) (pre.length : Int)) (l.map lineOf)
  | [], pre, z, e, hz => by
    subst e
    obtain rfl : z = [] := by simpa using hz
    exact Ev.round (fun k => by simp only [laws_toLineS.l0]; rw [if_neg (by simp)]) (Ev.cast (Ev.now _) (by simp))
  | g :: suf, pre, z, e, hz => by
    subst e
    obtain ⟨y, z, rfl⟩ : ∃ y t, z = y :: t := by cases z with
      | nil => simp at hz
      | cons y t => exact ⟨y, t, rfl⟩
    have ih := ev_toLineS_l (pre ++ g :: suf) hn suf (pre ++ [g]) z (snoc_mid _ _ _) (by simpa using hz)
    have hs : (pre.map lineOf ++ y :: z).set (pre.length : Int).toNat (⟨g.f0, g.f1⟩ : S68) = (pre ++ [g]).map lineOf ++ z := by
      rw [Int.toNat_natCast, List.set_append_right _ _ (by simp)]
      simp [lineOf]
    refine Ev.round (fun k => by simp only [laws_toLineS.l0]; rw [if_pos (lt_mid _ _ _), rdLL_mid, up_mid pre suf g (by omega)]) ?_
    refine Ev.ite_pos (by omega) (Ev.bindc rfl (Ev.ite_pos (by simp; omega) ?_))
    rw [hs]
    exact ih
theorem ev_toLineS (l : List S87) (hn : l.length ≤ 1048576) : Ev (fun k => laws_toLineS.f k l) (l.map lineOf) := by
  unfold laws_toLineS.f
  exact Ev.ite_pos (by omega) (Ev.ite_pos (by omega) (ev_toLineS_l l hn l [] _ rfl (by simp)))
theorem ev_toSheet (G : List S84) (L : List S87) (hG : G.length ≤ 1048576) (hL : L.length ≤ 1048576) : Ev (fun k => laws_toSheet.f k G L) (G.map goodOf, L.map lineOf) := by
  unfold laws_toSheet.f
  exact Ev.bind (ev_toGoodS G hG) (Ev.bind (ev_toLineS L hL) (Ev.now _))
theorem ev_eqGoodS_l (l : List S61) (hn : l.length ≤ 1048576) : ∀ (suf pre : List S61), l = pre ++ suf → Ev (fun k => laws_eqGoodS.l0 k l l (pre.length : Int)) true
  | [], pre, e => by
    subst e
    exact Ev.round (fun k => by simp only [laws_eqGoodS.l0]; rw [if_neg (by simp)]) (Ev.now _)
  | g :: suf, pre, e => by
    subst e
    have ih := ev_eqGoodS_l (pre ++ g :: suf) hn suf (pre ++ [g]) (snoc_mid _ _ _)
    refine Ev.round (fun k => by simp only [laws_eqGoodS.l0]; rw [if_pos (lt_mid _ _ _), rdG_mid, up_mid pre suf g (by omega)]) ?_
    refine Ev.ite_pos (by omega) (Ev.ite_pos (lt_mid _ _ _) (Ev.bindc (show laws_eqGood.f g.f0 g.f1 g.f0 g.f1 = some true by unfold laws_eqGood.f; rw [if_pos rfl, if_pos rfl]) (Ev.ite_pos rfl ih)))
theorem ev_eqLineS_l (l : List S68) (hn : l.length ≤ 1048576) : ∀ (suf pre : List S68), l = pre ++ suf → Ev (fun k => laws_eqLineS.l0 k l l (pre.length : Int)) true
  | [], pre, e => by
    subst e
    exact Ev.round (fun k => by simp only [laws_eqLineS.l0]; rw [if_neg (by simp)]) (Ev.now _)
  | g :: suf, pre, e => by
    subst e
    have ih := ev_eqLineS_l (pre ++ g :: suf) hn suf (pre ++ [g]) (snoc_mid _ _ _)
    refine Ev.round (fun k => by simp only [laws_eqLineS.l0]; rw [if_pos (lt_mid _ _ _), show rd_T68 (pre ++ g :: suf) (pre.length : Int) = g from getD_mid _ pre suf g, up_mid pre suf g (by omega)]) ?_
    refine Ev.ite_pos (by omega) (Ev.ite_pos (lt_mid _ _ _) (Ev.bindc (show laws_eqLine.f g.f0 g.f1 g.f0 g.f1 = some true by unfold laws_eqLine.f; rw [if_pos rfl, if_pos rfl]) (Ev.ite_pos rfl ih)))
theorem ev_eqSheet (G : List S61) (L : List S68) (hG : G.length ≤ 1048576) (hL : L.length ≤ 1048576) : Ev (fun k => laws_eqSheet.f k G L G L) true := by
  unfold laws_eqSheet.f laws_eqGoodS.f laws_eqLineS.f
  exact Ev.bind (Ev.ite_pos rfl (ev_eqGoodS_l G hG G [] rfl)) (Ev.ite_pos rfl (Ev.bind (Ev.ite_pos rfl (ev_eqLineS_l L hL L [] rfl)) (Ev.ite_pos rfl (Ev.now _))))
theorem ev_szGoodS_l (l : List S84) (hn : l.length ≤ 1048576) (hx : ∀ g ∈ l, g.f0.size ≤ 9223372036854775807) : ∀ (suf pre : List S84) (a : Int), l = pre ++ suf → 0 ≤ a → a ≤ 1048576 → ∃ t, t ≤ 1048576 ∧ Ev (fun k => laws_szGoodS.l0 k l a (pre.length : Int)) t ∧ (¬ t < 0 → ∀ g ∈ suf, g.f0.size ≤ 1048576)
  | [], pre, a, e, h0, h1 => by
    subst e
    exact ⟨a, h1, Ev.round (fun k => by simp only [laws_szGoodS.l0]; rw [if_neg (by simp)]) (Ev.now _), by simp⟩
  | g :: suf, pre, a, e, h0, h1 => by
    subst e
    have hg := hx g (by simp)
    have hw : wrap64 (a - (g.f0.size : Int)) = a - g.f0.size := by unfold wrap64; omega
    by_cases c : a - (g.f0.size : Int) < 0
    · refine ⟨-1, by omega, ?_, by omega⟩
      refine Ev.round (fun k => by simp only [laws_szGoodS.l0]; rw [if_pos (lt_mid _ _ _), rdGL_mid]) ?_
      exact Ev.ite_pos (by omega) (Ev.bindc (show laws_szGood.f g.f0 g.f1 a = some (-1) by unfold laws_szGood.f; rw [hw, if_pos c]) (Ev.ite_pos (by decide) (Ev.now _)))
    · obtain ⟨t, ht, ih, hh⟩ := ev_szGoodS_l (pre ++ g :: suf) hn hx suf (pre ++ [g]) (a - g.f0.size) (snoc_mid _ _ _) (by omega) (by omega)
      refine ⟨t, ht, ?_, fun h x hxm => ?_⟩
      · refine Ev.round (fun k => by simp only [laws_szGoodS.l0]; rw [if_pos (lt_mid _ _ _), rdGL_mid, up_mid pre suf g (by omega)]) ?_
        exact Ev.ite_pos (by omega) (Ev.bindc (show laws_szGood.f g.f0 g.f1 a = some (a - g.f0.size) by unfold laws_szGood.f; rw [hw, if_neg c]) (Ev.ite_neg c ih))
      · rcases List.mem_cons.1 hxm with rfl | hxm
        · omega
        · exact hh h x hxm
theorem ev_szSheet (G : List S84) (L : List S87) (hG : G.length ≤ 9223372036854775807) (hL : L.length ≤ 9223372036854775807) (hx : ∀ g ∈ G, g.f0.size ≤ 9223372036854775807) : ∃ t, Ev (fun k => laws_szSheet.f k G L 1048576) t ∧ (¬ t < 0 → G.length ≤ 1048576 ∧ L.length ≤ 1048576 ∧ ∀ g ∈ G, g.f0.size ≤ 1048576) := by
  unfold laws_szSheet.f laws_szGoodS.f
  have hw : wrap64 (1048576 - (G.length : Int)) = 1048576 - G.length := by unfold wrap64; omega
  rw [hw]
  by_cases c : 1048576 - (G.length : Int) < 0
  · exact ⟨-1, Ev.bind (Ev.ite_pos c (Ev.now _)) (Ev.ite_pos (by decide) (Ev.now _)), by omega⟩
  · obtain ⟨t, ht, h, hh⟩ := ev_szGoodS_l G (by omega) hx G [] (1048576 - G.length) rfl (by omega) (by omega)
    by_cases d : t < 0
    · exact ⟨-1, Ev.bind (Ev.ite_neg c h) (Ev.ite_pos d (Ev.now _)), by omega⟩
    · have hw2 : wrap64 (t - (L.length : Int)) = t - L.length := by unfold wrap64; omega
      by_cases e : t - (L.length : Int) < 0
      · refine ⟨-1, Ev.bind (Ev.ite_neg c h) (Ev.ite_neg d (Ev.bindc (show laws_szLineS.f L t = some (-1) by unfold laws_szLineS.f; rw [hw2, if_pos e]) (Ev.ite_pos (by decide) (Ev.now _)))), by omega⟩
      · exact ⟨t - L.length, Ev.bind (Ev.ite_neg c h) (Ev.ite_neg d (Ev.bindc (show laws_szLineS.f L t = some (t - L.length) by unfold laws_szLineS.f; rw [hw2, if_neg e]) (Ev.ite_neg e (Ev.now _)))), fun _ => ⟨by omega, by omega, hh d⟩⟩
theorem dec_len : ∀ (m u : Nat), u ≤ m → (Lib.decDigits u).length ≤ u + 1
  | 0, u, h => by
    unfold Lib.decDigits
    rw [dif_pos (by omega)]
    simp
  | m + 1, u, h => by
    unfold Lib.decDigits
    by_cases c : u < 10
    · rw [dif_pos c]; simp
    · rw [dif_neg c, List.length_append, List.length_singleton]
      have := dec_len m (u / 10) (by omega)
      omega
theorem mk_size (l : List UInt8) : (⟨l.toArray⟩ : ByteArray).size = l.length := by simp [ByteArray.size]
theorem mk_app (l : List UInt8) (s : ByteArray) : (⟨l.toArray⟩ : ByteArray) ++ s = ⟨(l ++ s.data.toList).toArray⟩ := by
  apply ByteArray.ext
  simp [ByteArray.data_append]
theorem ev_l1Num : ∀ (m : Nat) (a : Int), 0 ≤ a → a.toNat ≤ m → a ≤ 1000000 → Ev (fun k => spec_l1Num.f k a) (⟨(Lib.decDigits a.toNat).toArray⟩ : ByteArray)
  | 0, a, h0, hm, h1 => by
    have : a = 0 := by omega
    subst this
    refine Ev.round (fun k => by simp only [spec_l1Num.f]; rw [if_pos (by decide)]) (Ev.cast (Ev.now _) ?_)
    unfold Lib.decDigits
    rw [dif_pos (by decide), show (wrap64 (48 + 0)) % 256 = 48 by unfold wrap64; omega]
    rfl
  | m + 1, a, h0, hm, h1 => by
    by_cases c : a < 10
    · refine Ev.round (fun k => by simp only [spec_l1Num.f]; rw [if_pos c]) (Ev.cast (Ev.now _) ?_)
      have hw : (wrap64 (48 + a)) % 256 = 48 + a := by unfold wrap64; omega
      have hn : (48 + a).toNat = 48 + a.toNat := by omega
      unfold Lib.decDigits
      rw [dif_pos (by omega), hw]
      unfold strOfNums
      simp [hn]
    · have hd : Int.tdiv a 10 = a / 10 := Int.tdiv_eq_ediv_of_nonneg h0
      have hq : Int.tmod a 10 = a % 10 := Int.tmod_eq_emod_of_nonneg h0
      have hw : wrap64 (Int.tdiv a 10) = a / 10 := by rw [hd]; unfold wrap64; omega
      have hw2 : (wrap64 (48 + (Int.tmod a 10))) % 256 = 48 + a % 10 := by rw [hq]; unfold wrap64; omega
      have ih := ev_l1Num m (a / 10) (by omega) (by omega) (by omega)
      have hl := dec_len (a / 10).toNat (a / 10).toNat (Nat.le_refl _)
      refine Ev.round (fun k => by simp only [spec_l1Num.f]; rw [if_neg c, hw, hw2]) ?_
      refine Ev.bind ih ?_
      refine Ev.bindc rfl ?_
      refine Ev.ite_pos ?_ (Ev.cast (Ev.now _) ?_)
      · rw [mk_size (Lib.decDigits (a / 10).toNat), strOfNums_size]
        simp
        omega
      · rw [mk_app]
        have e1 : (a / 10).toNat = a.toNat / 10 := by omega
        have e2 : (48 + a % 10).toNat = 48 + a.toNat % 10 := by omega
        rw [show Lib.decDigits a.toNat = Lib.decDigits (a.toNat / 10) ++ [UInt8.ofNat (48 + a.toNat % 10)] by conv => lhs; unfold Lib.decDigits; rw [dif_neg (by omega)]]
        rw [e1]
        unfold strOfNums
        simp [e2]
theorem itoa_pos {n : Int} (h : 0 ≤ n) : Lib.itoa n = Lib.decDigits n.toNat := by unfold Lib.itoa; rw [if_neg (by omega)]
theorem flat_len {α : Type} {f : α → List UInt8} {b : Nat} : ∀ (l : List α), (∀ x ∈ l, (f x).length ≤ b) → (l.flatMap f).length ≤ l.length * b
  | [], _ => by simp
  | x :: l, h => by
    rw [List.flatMap_cons, List.length_append, List.length_cons, Nat.succ_mul]
    have h1 := h x (by simp)
    have h2 := flat_len l (fun y hy => h y (by simp [hy]))
    omega
def small (g : S61) : Prop := g.f0.size ≤ 1000000 ∧ 0 ≤ g.f1 ∧ g.f1 ≤ 1000
theorem gT_len (g : S61) (h : small g) : (impl_PrintSheet.gT g).length ≤ g.f0.size + 1010 := by
  have h1 := dec_len g.f1.toNat g.f1.toNat (Nat.le_refl _)
  unfold impl_PrintSheet.gT
  rw [itoa_pos h.2.1]
  simp only [List.length_append, List.length_cons, List.length_nil]
  have h2 : g.f0.data.toList.length = g.f0.size := rfl
  have := h.2.2
  omega
theorem gT_str (g : S61) (h : 0 ≤ g.f1) : ((((⟨#[103, 111, 111, 100, 32]⟩ ++ g.f0) ++ ⟨#[32]⟩) ++ ⟨(Lib.decDigits g.f1.toNat).toArray⟩) ++ ⟨#[10]⟩ : ByteArray).data.toList = impl_PrintSheet.gT g := by
  unfold impl_PrintSheet.gT
  rw [itoa_pos h]
  simp [ByteArray.data_append]
theorem lT_str (G : List S61) (x : S68) (h : 0 ≤ x.f1) : ((((⟨#[112, 105, 99, 107, 32]⟩ ++ (rd_T61 G x.f0).f0) ++ ⟨#[32]⟩) ++ ⟨(Lib.decDigits x.f1.toNat).toArray⟩) ++ ⟨#[10]⟩ : ByteArray).data.toList = impl_PrintSheet.lT G x := by
  unfold impl_PrintSheet.lT
  rw [itoa_pos h]
  simp [ByteArray.data_append]
theorem pcs (c nm : ByteArray) (hc : c.size = 5) (d : List UInt8) : (c ++ nm).size = 5 + nm.size ∧ ((c ++ nm) ++ ⟨#[32]⟩ : ByteArray).size = 5 + nm.size + 1 ∧ (((c ++ nm) ++ ⟨#[32]⟩) ++ ⟨d.toArray⟩ : ByteArray).size = 5 + nm.size + 1 + d.length ∧ ((((c ++ nm) ++ ⟨#[32]⟩) ++ ⟨d.toArray⟩) ++ ⟨#[10]⟩ : ByteArray).size = 5 + nm.size + 1 + d.length + 1 := by
  have h1 : (c ++ nm).size = 5 + nm.size := by rw [ByteArray.size_append, hc]
  have h2 : ((c ++ nm) ++ ⟨#[32]⟩ : ByteArray).size = 5 + nm.size + 1 := by rw [ByteArray.size_append, h1]; rfl
  have h3 : (((c ++ nm) ++ ⟨#[32]⟩) ++ ⟨d.toArray⟩ : ByteArray).size = 5 + nm.size + 1 + d.length := by rw [ByteArray.size_append, h2, mk_size d]
  refine ⟨h1, h2, h3, ?_⟩
  rw [ByteArray.size_append, h3]
  rfl
theorem ev_print_l1 (G : List S61) (hG : ∀ g ∈ G, small g) (L : List S68) (hn : L.length ≤ 1000) (hL : ∀ x ∈ L, (0 ≤ x.f0 ∧ x.f0 < (G.length : Int)) ∧ 0 ≤ x.f1 ∧ x.f1 ≤ 1000) : ∀ (suf pre : List S68) (T : List UInt8), L = pre ++ suf → T.length + suf.length * 2000000 ≤ 4611686018427387904 → Ev (fun k => spec_l15Print.l1 k (⟨T.toArray⟩ : ByteArray) L (L.length : Int) (pre.length : Int) G L) (⟨(T ++ suf.flatMap (impl_PrintSheet.lT G)).toArray⟩ : ByteArray)
  | [], pre, T, e, _ => by
    subst e
    exact Ev.round (fun k => by simp only [spec_l15Print.l1]; rw [if_neg (by simp)]) (Ev.cast (Ev.now _) (by simp))
  | x :: suf, pre, T, e, hT => by
    subst e
    rw [List.length_cons] at hT
    obtain ⟨⟨x0, x1⟩, x2, x3⟩ := hL x (by simp)
    have hgm : small (rd_T61 G x.f0) := hG _ (getD_mem _ (by omega))
    obtain ⟨p1, p2, p3, p4⟩ := pcs ⟨#[112, 105, 99, 107, 32]⟩ (rd_T61 G x.f0).f0 rfl (Lib.decDigits x.f1.toNat)
    have hd := dec_len x.f1.toNat x.f1.toNat (Nat.le_refl _)
    have hs := hgm.1
    have hstr := lT_str G x x2
    have hlen : (impl_PrintSheet.lT G x).length = 5 + (rd_T61 G x.f0).f0.size + 1 + (Lib.decDigits x.f1.toNat).length + 1 := by rw [← hstr, ← p4]; rfl
    have ih := ev_print_l1 G hG (pre ++ x :: suf) hn hL suf (pre ++ [x]) (T ++ impl_PrintSheet.lT G x) (snoc_mid _ _ _) (by rw [List.length_append]; omega)
    refine Ev.round (fun k => by simp only [spec_l15Print.l1]; rw [if_pos (lt_mid _ _ _), rdN_mid, up_mid pre suf x (by omega)]) ?_
    refine Ev.ite_pos (by omega) (Ev.ite_pos (lt_mid _ _ _) (Ev.ite_pos x0 (Ev.ite_pos x1 (Ev.ite_pos (by omega) (Ev.ite_pos (by rw [p1]; omega) ?_)))))
    refine Ev.bind (ev_l1Num x.f1.toNat x.f1 x2 (Nat.le_refl _) (by omega)) ?_
    refine Ev.ite_pos (by rw [p2, mk_size (Lib.decDigits x.f1.toNat)]; omega) (Ev.ite_pos (by rw [p3]; omega) (Ev.ite_pos (by rw [p4, mk_size T]; omega) ?_))
    rw [mk_app, hstr, List.flatMap_cons, ← List.append_assoc]
    exact ih
theorem ev_print_l0 (G : List S61) (hG : ∀ g ∈ G, small g) (hg : G.length ≤ 1000) (L : List S68) (hn : L.length ≤ 1000) (hL : ∀ x ∈ L, (0 ≤ x.f0 ∧ x.f0 < (G.length : Int)) ∧ 0 ≤ x.f1 ∧ x.f1 ≤ 1000) : ∀ (suf pre : List S61) (T : List UInt8), G = pre ++ suf → T.length + suf.length * 2000000 + 2000000000 ≤ 4611686018427387904 → Ev (fun k => spec_l15Print.l0 k (⟨T.toArray⟩ : ByteArray) G (G.length : Int) (pre.length : Int) G L) (⟨(T ++ suf.flatMap impl_PrintSheet.gT ++ L.flatMap (impl_PrintSheet.lT G)).toArray⟩ : ByteArray)
  | [], pre, T, e, hT => by
    have h1 := ev_print_l1 G hG L hn hL L [] T rfl (by omega)
    subst e
    exact Ev.round (fun k => by simp only [spec_l15Print.l0]; rw [if_neg (by simp)]; rfl) (Ev.cast h1 (by simp))
  | g :: suf, pre, T, e, hT => by
    subst e
    rw [List.length_cons] at hT
    have hgm := hG g (by simp)
    obtain ⟨p1, p2, p3, p4⟩ := pcs ⟨#[103, 111, 111, 100, 32]⟩ g.f0 rfl (Lib.decDigits g.f1.toNat)
    have hd := dec_len g.f1.toNat g.f1.toNat (Nat.le_refl _)
    have hs := hgm.1
    have hs2 := hgm.2
    have hstr := gT_str g hgm.2.1
    have hlen : (impl_PrintSheet.gT g).length = 5 + g.f0.size + 1 + (Lib.decDigits g.f1.toNat).length + 1 := by rw [← hstr, ← p4]; rfl
    have ih := ev_print_l0 (pre ++ g :: suf) hG hg L hn hL suf (pre ++ [g]) (T ++ impl_PrintSheet.gT g) (snoc_mid _ _ _) (by rw [List.length_append]; omega)
    refine Ev.round (fun k => by simp only [spec_l15Print.l0]; rw [if_pos (lt_mid _ _ _), rdG_mid, up_mid pre suf g (by omega)]) ?_
    refine Ev.ite_pos (by omega) (Ev.ite_pos (lt_mid _ _ _) (Ev.ite_pos (by omega) (Ev.ite_pos (by rw [p1]; omega) ?_)))
    refine Ev.bind (ev_l1Num g.f1.toNat g.f1 hgm.2.1 (Nat.le_refl _) (by omega)) ?_
    refine Ev.ite_pos (by rw [p2, mk_size (Lib.decDigits g.f1.toNat)]; omega) (Ev.ite_pos (by rw [p3]; omega) (Ev.ite_pos (by rw [p4, mk_size T]; omega) ?_))
    rw [mk_app, hstr, List.flatMap_cons, ← List.append_assoc]
    exact ih
theorem go_small : ∀ (suf pre : List S61), impl_GoodGoods.go pre suf = true → ∀ g ∈ suf, g.f0.size ≤ 8 ∧ 1 ≤ g.f1 ∧ g.f1 ≤ 100
  | [], _, _, g, hg => absurd hg (by simp)
  | x :: suf, pre, h, g, hg => by
    rw [impl_GoodGoods.go, Bool.and_eq_true, Bool.and_eq_true, Bool.and_eq_true, Bool.and_eq_true, decide_eq_true_eq, decide_eq_true_eq] at h
    rcases List.mem_cons.1 hg with rfl | hg
    · have hn := h.1.1.1
      unfold nameB at hn
      rw [Bool.and_eq_true, Bool.and_eq_true, decide_eq_true_eq, decide_eq_true_eq] at hn
      exact ⟨by have := hn.1.2; omega, h.1.1.2⟩
    · exact go_small suf (pre ++ [x]) h.2 g hg
theorem same_Print (G : List S61) (hG : G.length ≤ 1048576) (hx : ∀ g ∈ G, g.f0.size ≤ 4611686018427387904) (L : List S68) (hn : L.length ≤ 1048576) : ∃ (t : ByteArray) (b : Bool), Ev (fun k => spec_PrintSheet.f k G L) (t, b) ∧ Ev (fun k => impl_PrintSheet.f k G L) (t, b) := by
  unfold spec_PrintSheet.f impl_PrintSheet.f spec_l15Print.f
  have h1 := ev_GoodSheet G hG hx L hn
  have h2 := ev_implGoodSheet G hG L hn
  cases c : (L.all (lineB G.length) && (goodsB G && decide ((L.length : Int) ≤ 80))) with
  | false =>
    rw [c] at h1 h2
    exact ⟨⟨#[]⟩, false, Ev.bind h1 (Ev.ite_neg (by decide) (Ev.now _)), Ev.bind h2 (Ev.ite_neg (by decide) (Ev.now _))⟩
  | true =>
    rw [c] at h1 h2
    simp only [goodsB, Bool.and_eq_true, decide_eq_true_eq, List.all_eq_true] at c
    obtain ⟨cL, ⟨cG, cl⟩, cn⟩ := c
    have hgs := go_small G [] cG
    have hsm : ∀ g ∈ G, small g := fun g hg => by
      have := hgs g hg
      unfold small
      omega
    have hls : ∀ x ∈ L, (0 ≤ x.f0 ∧ x.f0 < (G.length : Int)) ∧ 0 ≤ x.f1 ∧ x.f1 ≤ 1000 := fun x hx => by
      have := cL x hx
      rw [lineB, Bool.and_eq_true, Bool.and_eq_true, Bool.and_eq_true, decide_eq_true_eq, decide_eq_true_eq, decide_eq_true_eq, decide_eq_true_eq] at this
      omega
    have hp := ev_print_l0 G hsm (by omega) L (by omega) hls G [] [] rfl (by simp; omega)
    have ht : (impl_PrintSheet.text G L).length ≤ 1073741824 := by
      unfold impl_PrintSheet.text
      rw [List.length_append]
      have a1 := flat_len (f := impl_PrintSheet.gT) (b := 2000) G (fun g hg => by have := gT_len g (hsm g hg); have := hgs g hg; omega)
      have a2 := flat_len (f := impl_PrintSheet.lT G) (b := 2000) L (fun x hx => by
        have hxx := hls x hx
        have hgm := hgs _ (getD_mem (l := G) (i := x.f0.toNat) ⟨⟨#[]⟩, 0⟩ (by omega))
        have hd := dec_len x.f1.toNat x.f1.toNat (Nat.le_refl _)
        have e : (impl_PrintSheet.lT G x).length = 5 + (rd_T61 G x.f0).f0.size + 1 + (Lib.decDigits x.f1.toNat).length + 1 := by
          rw [← lT_str G x hxx.2.1, ← (pcs ⟨#[112, 105, 99, 107, 32]⟩ (rd_T61 G x.f0).f0 rfl (Lib.decDigits x.f1.toNat)).2.2.2]
          rfl
        have hq : (rd_T61 G x.f0).f0.size ≤ 8 := hgm.1
        rw [e]
        omega)
      omega
    refine ⟨⟨(impl_PrintSheet.text G L).toArray⟩, true, Ev.bind h1 (Ev.ite_pos rfl (Ev.bind (a := (⟨(impl_PrintSheet.text G L).toArray⟩ : ByteArray)) (Ev.cast hp (by simp [impl_PrintSheet.text])) (Ev.now _))), Ev.bind h2 (Ev.ite_pos rfl (Ev.ite_pos ⟨fun g hg => by have := hgs g hg; omega, hls, ht⟩ (Ev.now _)))⟩
end Go.Proofs.YtabpgjejedjliaaDoor.Pure
