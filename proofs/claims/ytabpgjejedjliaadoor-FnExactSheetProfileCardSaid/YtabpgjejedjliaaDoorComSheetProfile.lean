import Derived.Test.YtabpgjejedjliaaDoorGLSheetProfile0
import Derived.Test.YtabpgjejedjliaaDoorGLSheetProfile1
import Derived.Test.YtabpgjejedjliaaDoorGLSheetProfile2
import Derived.Test.YtabpgjejedjliaaDoorGLSheetProfile3
import Derived.Test.YtabpgjejedjliaaDoorGLSheetProfile4
import Derived.Test.YtabpgjejedjliaaDoorGLSheetProfile5
import Derived.Test.YtabpgjejedjliaaDoorGLSheetProfile6
import Derived.Test.YtabpgjejedjliaaDoorGLSheetProfile7
import Derived.Test.YtabpgjejedjliaaDoorGLSheetProfile8
namespace Go.Proofs.YtabpgjejedjliaaDoor.Pure
open Go.RowKit Go.Proofs.YtabpgjejedjliaaDoor.GLSheetProfile Go.Proofs.YtabpgjejedjliaaDoorW.PrintWords Go.Proofs.YtabpgjejedjliaaDoorW.PrintLast Go.Proofs.YtabpgjejedjliaaDoorW.PrintMore Go.Proofs.YtabpgjejedjliaaDoorW.PrintOwn
set_option linter.unusedVariables false
set_option linter.unusedSimpArgs false
theorem Ev.bindc {α β : Type} {g : Option α} {f : Nat → α → Option β} {a : α} {r : β} (h : g = some a) (k : Ev (fun n => f n a) r) : Ev (fun n => g.bind (f n)) r := by
  subst h
  exact k
/-- One round. -/
theorem Ev.round {α : Type} {g f : Nat → Option α} {r : α} (h : ∀ k, g (k + 1) = f k) (k : Ev f r) : Ev g r := Ev.step h k
theorem Ev.eqv {α : Type} {g f : Nat → Option α} {r : α} (h : ∀ k, g k = f k) (k : Ev f r) : Ev g r := Ev.congr h k
theorem Ev.cast {α : Type} {g : Nat → Option α} {r r' : α} (h : Ev g r) (e : r = r') : Ev g r' := e ▸ h
theorem Ev.ite_pos {α : Type} {c : Prop} [Decidable c] {g f : Nat → Option α} {r : α} (hc : c) (k : Ev g r) : Ev (fun n => if c then g n else f n) r := by
  refine Ev.eqv (fun n => ?_) k
  rw [if_pos hc]
theorem Ev.ite_neg {α : Type} {c : Prop} [Decidable c] {g f : Nat → Option α} {r : α} (hc : ¬ c) (k : Ev f r) : Ev (fun n => if c then g n else f n) r := by
  refine Ev.eqv (fun n => ?_) k
  rw [if_neg hc]
theorem getD_mid {α : Type} (d : α) (pre suf : List α) (x : α) : (pre ++ x :: suf).getD (pre.length : Int).toNat d = x := by
  rw [Int.toNat_natCast, List.getD_eq_getElem?_getD, List.getElem?_append_right (Nat.le_refl _), Nat.sub_self]
  rfl
theorem rd_mid (pre suf : List Int) (x : Int) : rd (pre ++ x :: suf) (pre.length : Int) = x := getD_mid 0 pre suf x
theorem lt_mid {α : Type} (pre suf : List α) (x : α) : (pre.length : Int) < ((pre ++ x :: suf).length : Int) := by
  rw [List.length_append, List.length_cons]; omega
theorem up_mid {α : Type} (pre suf : List α) (x : α) (h : (pre ++ x :: suf).length ≤ 9223372036854775807) : wrap64 ((pre.length : Int) + 1) = ((pre ++ [x]).length : Int) := by
  rw [List.length_append, List.length_cons] at h
  rw [List.length_append, List.length_singleton]
  unfold wrap64
  omega
theorem snoc_mid {α : Type} (pre suf : List α) (x : α) : pre ++ x :: suf = (pre ++ [x]) ++ suf := by simp
theorem ev_eqIntS_l (a b : List Int) (hab : a.length = b.length) (hn : a.length ≤ 9223372036854775807) : ∀ (sa pa sb pb : List Int), a = pa ++ sa → b = pb ++ sb → pa.length = pb.length → Ev (fun k => laws_eqIntS.l0 k a b (pa.length : Int)) (decide (sa = sb))
  | [], pa, sb, pb, ea, eb, hp => by
    subst ea
    refine Ev.round (f := fun _ => some true) (fun k => ?_) (Ev.cast (Ev.now _) ?_)
    · simp only [laws_eqIntS.l0]
      rw [if_neg (by simp)]
    · have : sb = [] := by
        rw [eb] at hab
        simp at hab
        exact List.length_eq_zero_iff.1 (by omega)
      rw [this]; rfl
  | x :: sa, pa, [], pb, ea, eb, hp => by
    rw [ea, eb] at hab
    simp at hab
    omega
  | x :: sa, pa, y :: sb, pb, ea, eb, hp => by
    subst ea
    subst eb
    have h1 : ((pa.length : Nat) : Int) = (pb.length : Int) := by omega
    by_cases e : x = y
    · subst e
      have ih := ev_eqIntS_l (pa ++ x :: sa) (pb ++ x :: sb) hab hn sa (pa ++ [x]) sb (pb ++ [x]) (snoc_mid _ _ _) (snoc_mid _ _ _) (by simp [hp])
      refine Ev.round (fun k => ?_) (Ev.cast ih (by simp))
      simp only [laws_eqIntS.l0]
      rw [if_pos (lt_mid _ _ _), if_pos (by omega), if_pos (by rw [h1]; exact lt_mid _ _ _), rd_mid, h1, rd_mid, if_pos rfl, ← h1, up_mid _ _ _ hn]
    · refine Ev.round (f := fun _ => some false) (fun k => ?_) (Ev.cast (Ev.now _) (by simp [e]))
      simp only [laws_eqIntS.l0]
      rw [if_pos (lt_mid _ _ _), if_pos (by omega), if_pos (by rw [h1]; exact lt_mid _ _ _), rd_mid, h1, rd_mid, if_neg e]
theorem ev_eqIntS (a b : List Int) (hn : a.length ≤ 9223372036854775807) : Ev (fun k => laws_eqIntS.f k a b) (decide (a = b)) := by
  unfold laws_eqIntS.f
  by_cases h : a.length = b.length
  · exact Ev.ite_pos (by omega) (ev_eqIntS_l a b h hn a [] b [] rfl rfl rfl)
  · refine Ev.ite_neg (by omega) (Ev.cast (Ev.now _) ?_)
    rw [decide_eq_false]
    rintro rfl
    exact h rfl
theorem in_eq (a lo hi : Int) : spec_l1In.f a lo hi = some (decide (lo ≤ a) && decide (a ≤ hi)) := by
  unfold spec_l1In.f
  by_cases h : a ≥ lo
  · rw [if_pos h]; simp [h]
  · rw [if_neg h]; simp [h]
theorem within_eq (a lo hi : Int) : impl_within.f a lo hi = some (decide (lo ≤ a) && decide (a ≤ hi)) := by
  unfold impl_within.f
  by_cases h : a ≥ lo
  · rw [if_pos h]; simp [h]
  · rw [if_neg h]; simp [h]
/-- n numbers from a on. -/
def upFrom (a : Int) : Nat → List Int
  | 0 => []
  | n + 1 => a :: upFrom (a + 1) n
theorem ev_markIntS_l : ∀ (suf pre : List Int) (a : Int), 0 ≤ a → a + suf.length ≤ 4611686018427387904 → pre.length + suf.length ≤ 4611686018427387904 → Ev (fun k => laws_markIntS.l0 k (pre ++ suf) a (pre.length : Int)) (a + suf.length, pre ++ upFrom a suf.length)
  | [], pre, a, h0, h1, h2 => by
    refine Ev.round (f := fun _ => some (a, pre ++ [])) (fun k => ?_) (Ev.cast (Ev.now _) (by simp [upFrom]))
    simp only [laws_markIntS.l0]
    rw [if_neg (by simp)]
  | x :: suf, pre, a, h0, h1, h2 => by
    rw [List.length_cons] at h1 h2
    have ih := ev_markIntS_l suf (pre ++ [a]) (a + 1) (by omega) (by omega) (by simp; omega)
    refine Ev.round (fun k => ?_) (Ev.cast ih (by rw [List.length_cons, upFrom]; simp; omega))
    simp only [laws_markIntS.l0]
    have hw : wrap64 (a + 1) = a + 1 := by unfold wrap64; omega
    have hw2 : wrap64 ((pre.length : Int) + 1) = ((pre ++ [a]).length : Int) := by unfold wrap64; simp; omega
    rw [if_pos (lt_mid _ _ _), if_pos (by omega), hw, hw2, Int.toNat_natCast, List.set_append_right _ _ (Nat.le_refl _), Nat.sub_self, List.set_cons_zero]
    simp
theorem ev_markIntS (l : List Int) (a : Int) (h0 : 0 ≤ a) (h1 : a + l.length ≤ 4611686018427387904) : Ev (fun k => laws_markIntS.f k l a) (a + l.length, upFrom a l.length) := ev_markIntS_l l [] a h0 h1 (by simp; omega)
theorem ev_heldIntS_l : ∀ (n : Nat) (pre : List Int) (a : Int), 0 ≤ a → a + n ≤ 4611686018427387904 → pre.length + n ≤ 4611686018427387904 → Ev (fun k => laws_heldIntS.l0 k (pre ++ upFrom a n) a (pre.length : Int)) (a + n)
  | 0, pre, a, h0, h1, h2 => by
    refine Ev.round (f := fun _ => some a) (fun k => ?_) (Ev.cast (Ev.now _) (by simp))
    simp only [laws_heldIntS.l0]
    rw [if_neg (by simp [upFrom])]
  | n + 1, pre, a, h0, h1, h2 => by
    have ih := ev_heldIntS_l n (pre ++ [a]) (a + 1) (by omega) (by omega) (by simp; omega)
    refine Ev.round (fun k => ?_) (Ev.cast ih (by omega))
    rw [upFrom]
    simp only [laws_heldIntS.l0]
    have hw : wrap64 (a + 1) = a + 1 := by unfold wrap64; omega
    have hw2 : wrap64 ((pre.length : Int) + 1) = ((pre ++ [a]).length : Int) := by unfold wrap64; simp; omega
    rw [if_pos (lt_mid _ _ _), if_pos (by omega), rd_mid, if_pos rfl, hw, hw2]
    simp
theorem ev_heldIntS (a : Int) (n : Nat) (h0 : 0 ≤ a) (h1 : a + n ≤ 4611686018427387904) : Ev (fun k => laws_heldIntS.f k (upFrom a n) a) (a + n) := ev_heldIntS_l n [] a h0 h1 (by simp; omega)
def azB (l : List UInt8) : Bool := l.all fun b => decide (97 ≤ b.toNat) && decide (b.toNat ≤ 122)
set_option maxRecDepth 100000 in
theorem az_nat : ∀ n, n < 256 → azCut.contains (UInt8.ofNat n) = (decide (97 ≤ n) && decide (n ≤ 122)) := by decide
theorem az_byte (b : UInt8) : azCut.contains b = (decide (97 ≤ b.toNat) && decide (b.toNat ≤ 122)) := by
  have h := az_nat b.toNat b.toNat_lt
  rw [UInt8.ofNat_toNat] at h
  exact h
theorem drop_nil {p : UInt8 → Bool} : ∀ (l : List UInt8), l.dropWhile p = [] ↔ ∀ x ∈ l, p x = true
  | [] => by simp
  | x :: l => by
    rw [List.dropWhile_cons]
    by_cases c : p x = true
    · rw [if_pos c, drop_nil l]
      simp [c]
    · rw [if_neg c]
      simp [c]
theorem drop_head {p : UInt8 → Bool} : ∀ (l : List UInt8) (x : UInt8) (t : List UInt8), l.dropWhile p = x :: t → p x = false
  | [], x, t, h => by simp at h
  | y :: l, x, t, h => by
    rw [List.dropWhile_cons] at h
    by_cases c : p y = true
    · rw [if_pos c] at h
      exact drop_head l x t h
    · rw [if_neg c] at h
      cases h
      exact Bool.eq_false_iff.2 c
theorem trim_az (l : List UInt8) : (Lib.trimS l azCut).isEmpty = azB l := by
  rw [Bool.eq_iff_iff, List.isEmpty_iff]
  unfold azB Lib.trimS Lib.trimLeftS Lib.trimRightS
  rw [List.all_eq_true, drop_nil]
  constructor
  · intro h x hx
    cases hd : l.reverse.dropWhile (azCut.contains ·) with
    | nil =>
      rw [← az_byte]
      exact (drop_nil l.reverse).1 hd x (by simpa using hx)
    | cons y t =>
      have h1 := drop_head _ _ _ hd
      have h2 := h y (by rw [hd]; simp)
      rw [h1] at h2
      cases h2
  · intro h x hx
    have hx2 : x ∈ l := by
      rw [List.mem_reverse] at hx
      have := (List.dropWhile_sublist (azCut.contains ·) (l := l.reverse)).subset hx
      simpa using this
    rw [az_byte]
    exact h x hx2
theorem bt_drop (a : ByteArray) (i : Nat) (h : i < a.size) : ∃ b : UInt8, a.data.toList.drop i = b :: a.data.toList.drop (i + 1) ∧ bt a (i : Int) = (b.toNat : Int) := by
  have h2 : i < a.data.toList.length := by simpa using h
  refine ⟨a.data.toList[i], List.drop_eq_getElem_cons h2, ?_⟩
  unfold bt
  rw [dif_pos (by simpa using h)]
  rfl
theorem ev_name_l (a : ByteArray) (hn : a.size ≤ 4611686018427387904) : ∀ (m i : Nat), i + m = a.size → Ev (fun k => spec_l3Name.l0 k a (i : Int)) (azB (a.data.toList.drop i) && (decide (1 ≤ (a.size : Int)) && decide ((a.size : Int) ≤ 8)))
  | 0, i, h => by
    have hd : a.data.toList.drop i = [] := List.drop_of_length_le (by simp; show a.size ≤ i; omega)
    rw [hd]
    refine Ev.round (fun k => by simp only [spec_l3Name.l0]; rw [if_neg (by omega)]) ?_
    exact Ev.bindc (in_eq _ _ _) (Ev.now _)
  | m + 1, i, h => by
    obtain ⟨b, hd, hb⟩ := bt_drop a i (by omega)
    have ih := ev_name_l a hn m (i + 1) (by omega)
    have hw : wrap64 ((i : Int) + 1) = ((i + 1 : Nat) : Int) := by unfold wrap64; omega
    rw [hd]
    refine Ev.round (fun k => by simp only [spec_l3Name.l0]; rw [if_pos (show (i : Int) < (a.size : Int) by omega), hb, hw]) ?_
    refine Ev.ite_pos (by omega) ?_
    have hz : azB (b :: a.data.toList.drop (i + 1)) = ((decide (97 ≤ b.toNat) && decide (b.toNat ≤ 122)) && azB (a.data.toList.drop (i + 1))) := by
      unfold azB; rw [List.all_cons]
    rw [hz]
    by_cases c : (b.toNat : Int) < 97
    · rw [decide_eq_false (show ¬ 97 ≤ b.toNat by omega)]
      exact Ev.ite_pos c (Ev.now _)
    · rw [decide_eq_true (show 97 ≤ b.toNat by omega)]
      refine Ev.ite_neg c ?_
      by_cases d : (b.toNat : Int) > 122
      · rw [decide_eq_false (show ¬ b.toNat ≤ 122 by omega)]
        exact Ev.ite_pos d (Ev.now _)
      · rw [decide_eq_true (show b.toNat ≤ 122 by omega)]
        exact Ev.ite_neg d (by simpa using ih)
theorem ev_name (a : ByteArray) (hn : a.size ≤ 4611686018427387904) : Ev (fun k => spec_l3Name.f k a) (nameB a) := by
  have h := ev_name_l a hn a.size 0 (by omega)
  refine Ev.cast h ?_
  unfold nameB
  rw [trim_az, List.drop_zero, Bool.and_comm]
theorem rdG_mid (pre suf : List S61) (g : S61) : rd_T61 (pre ++ g :: suf) (pre.length : Int) = g := getD_mid _ pre suf g
theorem goods_in (l : List S61) (n i : Int) (g : S61) (P : List S61) (hn : P.length ≤ 9223372036854775807) (R : Bool) (h : Ev (fun k => spec_GoodGoods.l0 k l l n (wrap64 (i + 1))) R) : ∀ (suf pre : List S61), P = pre ++ suf → Ev (fun k => spec_GoodGoods.l1 k l l n i P (P.length : Int) (pre.length : Int) g.f0 g.f1) (!(suf.any (impl_GoodGoods.p g)) && R)
  | [], pre, e => by
    subst e
    exact Ev.round (fun k => by simp only [spec_GoodGoods.l1]; rw [if_neg (by simp)]) (Ev.cast h (by simp))
  | x :: suf, pre, e => by
    subst e
    have ih := goods_in l n i g (pre ++ x :: suf) hn R h suf (pre ++ [x]) (snoc_mid _ _ _)
    refine Ev.round (fun k => by simp only [spec_GoodGoods.l1]; rw [if_pos (lt_mid _ _ _), rdG_mid, up_mid pre suf x hn]) ?_
    refine Ev.ite_pos (by omega) (Ev.ite_pos (lt_mid _ _ _) ?_)
    rw [List.any_cons]
    by_cases c : x.f0.toList = g.f0.toList
    · rw [show impl_GoodGoods.p g x = true from beq_iff_eq.2 c]
      exact Ev.ite_pos c (Ev.now _)
    · rw [show impl_GoodGoods.p g x = false from beq_eq_false_iff_ne.2 c]
      exact Ev.ite_neg c (by simpa using ih)
theorem goods_out (l : List S61) (hn : l.length ≤ 1048576) (hx : ∀ g ∈ l, g.f0.size ≤ 4611686018427387904) : ∀ (suf pre : List S61), l = pre ++ suf → Ev (fun k => spec_GoodGoods.l0 k l l (l.length : Int) (pre.length : Int)) (impl_GoodGoods.go pre suf && decide ((l.length : Int) ≤ 12))
  | [], pre, e => by
    subst e
    exact Ev.round (fun k => by simp only [spec_GoodGoods.l0]; rw [if_neg (by simp)]) (Ev.cast (Ev.now _) (by simp [impl_GoodGoods.go]))
  | g :: suf, pre, e => by
    have ih := goods_out l hn hx suf (pre ++ [g]) (by rw [e]; simp)
    have hlp : pre.length + (suf.length + 1) = l.length := by rw [e]; simp
    have hg := hx g (by rw [e]; simp)
    have hrd : rd_T61 l (pre.length : Int) = g := by rw [e]; exact rdG_mid _ _ _
    have htk : l.take (pre.length : Int).toNat = pre := by rw [e]; simp
    have hw : wrap64 ((pre.length : Int) + 1) = ((pre ++ [g]).length : Int) := by rw [List.length_append, List.length_singleton]; unfold wrap64; omega
    have hj : ∀ b : Bool, Ev (fun k => spec_GoodGoods.j1 k l (pre.length : Int) l (l.length : Int) (pre.length : Int) b g.f0 g.f1) (!b && (!(pre.any (impl_GoodGoods.p g)) && (impl_GoodGoods.go (pre ++ [g]) suf && decide ((l.length : Int) ≤ 12)))) := by
      intro b
      cases b with
      | true => exact Ev.round (f := fun _ => some false) (fun k => by simp only [spec_GoodGoods.j1]; rw [if_pos trivial]) (Ev.now _)
      | false =>
        refine Ev.round (fun k => by simp only [spec_GoodGoods.j1]; rw [if_neg (by decide), htk]) ?_
        refine Ev.ite_pos (by omega) (Ev.ite_pos (by omega) (Ev.bindc rfl ?_))
        rw [Bool.not_false, Bool.true_and]
        exact goods_in l _ (pre.length : Int) g pre (by omega) _ (by rw [hw]; exact ih) pre [] rfl
    refine Ev.round (fun k => by simp only [spec_GoodGoods.l0]; rw [if_pos (show (pre.length : Int) < (l.length : Int) by omega), hrd]) ?_
    refine Ev.ite_pos (by omega) (Ev.ite_pos (by omega) (Ev.bind (ev_name g.f0 hg) ?_))
    rw [impl_GoodGoods.go]
    cases nameB g.f0 with
    | true =>
      refine Ev.ite_pos rfl (Ev.bindc (in_eq _ _ _) (Ev.cast (hj _) ?_))
      cases (decide (1 ≤ g.f1) && decide (g.f1 ≤ 100)) <;> simp [Bool.and_assoc]
    | false =>
      refine Ev.ite_neg (by decide) (Ev.cast (hj _) ?_)
      simp
/-- The goods are good. -/
def goodsB (l : List S61) : Bool := impl_GoodGoods.go [] l && decide ((l.length : Int) ≤ 12)
theorem ev_GoodGoods (l : List S61) (hn : l.length ≤ 1048576) (hx : ∀ g ∈ l, g.f0.size ≤ 4611686018427387904) : Ev (fun k => spec_GoodGoods.f k l) (goodsB l) := goods_out l hn hx l [] rfl
theorem implGoodGoods (l : List S61) : impl_GoodGoods.f l = some (goodsB l) := rfl
def lineB (n : Nat) (x : S68) : Bool := (decide (0 ≤ x.f0) && decide (x.f0 ≤ (n : Int) - 1)) && (decide (1 ≤ x.f1) && decide (x.f1 ≤ 99))
theorem rdN_mid (pre suf : List S68) (g : S68) : rd_T68 (pre ++ g :: suf) (pre.length : Int) = g := getD_mid _ pre suf g
theorem sheet_l (G : List S61) (hG : G.length ≤ 1048576) (hx : ∀ g ∈ G, g.f0.size ≤ 4611686018427387904) (L : List S68) (hn : L.length ≤ 1048576) : ∀ (suf pre : List S68), L = pre ++ suf → Ev (fun k => spec_GoodSheet.l0 k L (L.length : Int) (pre.length : Int) G L) (suf.all (lineB G.length) && (goodsB G && decide ((L.length : Int) ≤ 80)))
  | [], pre, e => by
    subst e
    refine Ev.round (fun k => by simp only [spec_GoodSheet.l0]; rw [if_neg (by simp)]) (Ev.bind (ev_GoodGoods G hG hx) ?_)
    rw [List.all_nil, Bool.true_and]
    cases goodsB G with
    | true => exact Ev.ite_pos rfl (Ev.cast (Ev.now _) (by simp))
    | false => exact Ev.ite_neg (by decide) (Ev.now _)
  | x :: suf, pre, e => by
    subst e
    have ih := sheet_l G hG hx (pre ++ x :: suf) hn suf (pre ++ [x]) (snoc_mid _ _ _)
    refine Ev.round (fun k => by simp only [spec_GoodSheet.l0]; rw [if_pos (lt_mid _ _ _), rdN_mid, up_mid pre suf x (by omega)]) ?_
    refine Ev.ite_pos (by omega) (Ev.ite_pos (lt_mid _ _ _) ?_)
    rw [List.all_cons, lineB]
    by_cases c0 : x.f0 < 0
    · rw [decide_eq_false (show ¬ 0 ≤ x.f0 by omega)]
      exact Ev.ite_pos c0 (Ev.now _)
    rw [decide_eq_true (show 0 ≤ x.f0 by omega)]
    refine Ev.ite_neg c0 ?_
    by_cases c1 : x.f0 ≥ (G.length : Int)
    · rw [decide_eq_false (show ¬ x.f0 ≤ (G.length : Int) - 1 by omega)]
      exact Ev.ite_pos c1 (Ev.now _)
    rw [decide_eq_true (show x.f0 ≤ (G.length : Int) - 1 by omega)]
    refine Ev.ite_neg c1 (Ev.bindc (in_eq _ _ _) ?_)
    cases (decide (1 ≤ x.f1) && decide (x.f1 ≤ 99)) with
    | true => exact Ev.ite_pos rfl (by simpa using ih)
    | false => exact Ev.ite_neg (by decide) (Ev.now _)
theorem ev_GoodSheet (G : List S61) (hG : G.length ≤ 1048576) (hx : ∀ g ∈ G, g.f0.size ≤ 4611686018427387904) (L : List S68) (hn : L.length ≤ 1048576) : Ev (fun k => spec_GoodSheet.f k G L) (L.all (lineB G.length) && (goodsB G && decide ((L.length : Int) ≤ 80))) := sheet_l G hG hx L hn L [] rfl
def goodOf (g : S84) : S61 := ⟨g.f0, g.f1⟩
def lineOf (g : S87) : S68 := ⟨g.f0, g.f1⟩
theorem rdGL_mid (pre suf : List S84) (g : S84) : rd_T84 (pre ++ g :: suf) (pre.length : Int) = g := getD_mid _ pre suf g
theorem rdLL_mid (pre suf : List S87) (g : S87) : rd_T87 (pre ++ g :: suf) (pre.length : Int) = g := getD_mid _ pre suf g
theorem ev_toGoodS_l (l : List S84) (hn : l.length ≤ 1048576) : ∀ (suf pre : List S84) (z : List S61), l = pre ++ suf → z.length = suf.length → Ev (fun k => laws_toGoodS.l0 k l (pre.map goodOf ++ z) (pre.length : Int)) (l.map goodOf)
  | [], pre, z, e, hz => by
    subst e
    obtain rfl : z = [] := by simpa using hz
    exact Ev.round (fun k => by simp only [laws_toGoodS.l0]; rw [if_neg (by simp)]) (Ev.cast (Ev.now _) (by simp))
  | g :: suf, pre, z, e, hz => by
    subst e
    obtain ⟨y, z, rfl⟩ : ∃ y t, z = y :: t := by cases z with
      | nil => simp at hz
      | cons y t => exact ⟨y, t, rfl⟩
    have ih := ev_toGoodS_l (pre ++ g :: suf) hn suf (pre ++ [g]) z (snoc_mid _ _ _) (by simpa using hz)
    have hs : (pre.map goodOf ++ y :: z).set (pre.length : Int).toNat (⟨g.f0, g.f1⟩ : S61) = (pre ++ [g]).map goodOf ++ z := by
      rw [Int.toNat_natCast, List.set_append_right _ _ (by simp)]
      simp [goodOf]
    refine Ev.round (fun k => by simp only [laws_toGoodS.l0]; rw [if_pos (lt_mid _ _ _), rdGL_mid, up_mid pre suf g (by omega)]) ?_
    refine Ev.ite_pos (by omega) (Ev.bindc rfl (Ev.ite_pos (by simp; omega) ?_))
    rw [hs]
    exact ih
theorem ev_toGoodS (l : List S84) (hn : l.length ≤ 1048576) : Ev (fun k => laws_toGoodS.f k l) (l.map goodOf) := by
  unfold laws_toGoodS.f
  exact Ev.ite_pos (by omega) (Ev.ite_pos (by omega) (ev_toGoodS_l l hn l [] _ rfl (by simp)))
theorem ev_toLineS_l (l : List S87) (hn : l.length ≤ 1048576) : ∀ (suf pre : List S87) (z : List S68), l = pre ++ suf → z.length = suf.length → Ev (fun k => laws_toLineS.l0 k l (pre.map lineOf ++ z) (pre.length : Int)) (l.map lineOf)
  | [], pre, z, e, hz => by
    subst e
    obtain rfl : z = [] := by simpa using hz
    exact Ev.round (fun k => by simp only [laws_toLineS.l0]; rw [if_neg (by simp)]) (Ev.cast (Ev.now _) (by simp))
  | g :: suf, pre, z, e, hz => by
    subst e
    obtain ⟨y, z, rfl⟩ : ∃ y t, z = y :: t := by cases z with
      | nil => simp at hz
      | cons y t => exact ⟨y, t, rfl⟩
    have ih := ev_toLineS_l (pre ++ g :: suf) hn suf (pre ++ [g]) z (snoc_mid _ _ _) (by simpa using hz)
    have hs : (pre.map lineOf ++ y :: z).set (pre.length : Int).toNat (⟨g.f0, g.f1⟩ : S68) = (pre ++ [g]).map lineOf ++ z := by
      rw [Int.toNat_natCast, List.set_append_right _ _ (by simp)]
      simp [lineOf]
    refine Ev.round (fun k => by simp only [laws_toLineS.l0]; rw [if_pos (lt_mid _ _ _), rdLL_mid, up_mid pre suf g (by omega)]) ?_
    refine Ev.ite_pos (by omega) (Ev.bindc rfl (Ev.ite_pos (by simp; omega) ?_))
    rw [hs]
    exact ih
theorem ev_toLineS (l : List S87) (hn : l.length ≤ 1048576) : Ev (fun k => laws_toLineS.f k l) (l.map lineOf) := by
  unfold laws_toLineS.f
  exact Ev.ite_pos (by omega) (Ev.ite_pos (by omega) (ev_toLineS_l l hn l [] _ rfl (by simp)))
theorem ev_toSheet (G : List S84) (L : List S87) (hG : G.length ≤ 1048576) (hL : L.length ≤ 1048576) : Ev (fun k => laws_toSheet.f k G L) (G.map goodOf, L.map lineOf) := by
  unfold laws_toSheet.f
  exact Ev.bind (ev_toGoodS G hG) (Ev.bind (ev_toLineS L hL) (Ev.now _))
theorem ev_eqGoodS_l (l : List S61) (hn : l.length ≤ 1048576) : ∀ (suf pre : List S61), l = pre ++ suf → Ev (fun k => laws_eqGoodS.l0 k l l (pre.length : Int)) true
  | [], pre, e => by
    subst e
    exact Ev.round (fun k => by simp only [laws_eqGoodS.l0]; rw [if_neg (by simp)]) (Ev.now _)
  | g :: suf, pre, e => by
    subst e
    have ih := ev_eqGoodS_l (pre ++ g :: suf) hn suf (pre ++ [g]) (snoc_mid _ _ _)
    refine Ev.round (fun k => by simp only [laws_eqGoodS.l0]; rw [if_pos (lt_mid _ _ _), rdG_mid, up_mid pre suf g (by omega)]) ?_
    refine Ev.ite_pos (by omega) (Ev.ite_pos (lt_mid _ _ _) (Ev.bindc (show laws_eqGood.f g.f0 g.f1 g.f0 g.f1 = some true by unfold laws_eqGood.f; rw [if_pos rfl, if_pos rfl]) (Ev.ite_pos rfl ih)))
theorem ev_eqLineS_l (l : List S68) (hn : l.length ≤ 1048576) : ∀ (suf pre : List S68), l = pre ++ suf → Ev (fun k => laws_eqLineS.l0 k l l (pre.length : Int)) true
  | [], pre, e => by
    subst e
    exact Ev.round (fun k => by simp only [laws_eqLineS.l0]; rw [if_neg (by simp)]) (Ev.now _)
  | g :: suf, pre, e => by
    subst e
    have ih := ev_eqLineS_l (pre ++ g :: suf) hn suf (pre ++ [g]) (snoc_mid _ _ _)
    refine Ev.round (fun k => by simp only [laws_eqLineS.l0]; rw [if_pos (lt_mid _ _ _), show rd_T68 (pre ++ g :: suf) (pre.length : Int) = g from getD_mid _ pre suf g, up_mid pre suf g (by omega)]) ?_
    refine Ev.ite_pos (by omega) (Ev.ite_pos (lt_mid _ _ _) (Ev.bindc (show laws_eqLine.f g.f0 g.f1 g.f0 g.f1 = some true by unfold laws_eqLine.f; rw [if_pos rfl, if_pos rfl]) (Ev.ite_pos rfl ih)))
theorem ev_eqSheet (G : List S61) (L : List S68) (hG : G.length ≤ 1048576) (hL : L.length ≤ 1048576) : Ev (fun k => laws_eqSheet.f k G L G L) true := by
  unfold laws_eqSheet.f laws_eqGoodS.f laws_eqLineS.f
  exact Ev.bind (Ev.ite_pos rfl (ev_eqGoodS_l G hG G [] rfl)) (Ev.ite_pos rfl (Ev.bind (Ev.ite_pos rfl (ev_eqLineS_l L hL L [] rfl)) (Ev.ite_pos rfl (Ev.now _))))
theorem ev_szGoodS_l (l : List S84) (hn : l.length ≤ 1048576) (hx : ∀ g ∈ l, g.f0.size ≤ 9223372036854775807) : ∀ (suf pre : List S84) (a : Int), l = pre ++ suf → 0 ≤ a → a ≤ 1048576 → ∃ t, t ≤ 1048576 ∧ Ev (fun k => laws_szGoodS.l0 k l a (pre.length : Int)) t ∧ (¬ t < 0 → ∀ g ∈ suf, g.f0.size ≤ 1048576)
  | [], pre, a, e, h0, h1 => by
    subst e
    exact ⟨a, h1, Ev.round (fun k => by simp only [laws_szGoodS.l0]; rw [if_neg (by simp)]) (Ev.now _), by simp⟩
  | g :: suf, pre, a, e, h0, h1 => by
    subst e
    have hg := hx g (by simp)
    have hw : wrap64 (a - (g.f0.size : Int)) = a - g.f0.size := by unfold wrap64; omega
    by_cases c : a - (g.f0.size : Int) < 0
    · refine ⟨-1, by omega, ?_, by omega⟩
      refine Ev.round (fun k => by simp only [laws_szGoodS.l0]; rw [if_pos (lt_mid _ _ _), rdGL_mid]) ?_
      exact Ev.ite_pos (by omega) (Ev.bindc (show laws_szGood.f g.f0 g.f1 a = some (-1) by unfold laws_szGood.f; rw [hw, if_pos c]) (Ev.ite_pos (by decide) (Ev.now _)))
    · obtain ⟨t, ht, ih, hh⟩ := ev_szGoodS_l (pre ++ g :: suf) hn hx suf (pre ++ [g]) (a - g.f0.size) (snoc_mid _ _ _) (by omega) (by omega)
      refine ⟨t, ht, ?_, fun h x hxm => ?_⟩
      · refine Ev.round (fun k => by simp only [laws_szGoodS.l0]; rw [if_pos (lt_mid _ _ _), rdGL_mid, up_mid pre suf g (by omega)]) ?_
        exact Ev.ite_pos (by omega) (Ev.bindc (show laws_szGood.f g.f0 g.f1 a = some (a - g.f0.size) by unfold laws_szGood.f; rw [hw, if_neg c]) (Ev.ite_neg c ih))
      · rcases List.mem_cons.1 hxm with rfl | hxm
        · omega
        · exact hh h x hxm
theorem ev_szSheet (G : List S84) (L : List S87) (hG : G.length ≤ 9223372036854775807) (hL : L.length ≤ 9223372036854775807) (hx : ∀ g ∈ G, g.f0.size ≤ 9223372036854775807) : ∃ t, Ev (fun k => laws_szSheet.f k G L 1048576) t ∧ (¬ t < 0 → G.length ≤ 1048576 ∧ L.length ≤ 1048576 ∧ ∀ g ∈ G, g.f0.size ≤ 1048576) := by
  unfold laws_szSheet.f laws_szGoodS.f
  have hw : wrap64 (1048576 - (G.length : Int)) = 1048576 - G.length := by unfold wrap64; omega
  rw [hw]
  by_cases c : 1048576 - (G.length : Int) < 0
  · exact ⟨-1, Ev.bind (Ev.ite_pos c (Ev.now _)) (Ev.ite_pos (by decide) (Ev.now _)), by omega⟩
  · obtain ⟨t, ht, h, hh⟩ := ev_szGoodS_l G (by omega) hx G [] (1048576 - G.length) rfl (by omega) (by omega)
    by_cases d : t < 0
    · exact ⟨-1, Ev.bind (Ev.ite_neg c h) (Ev.ite_pos d (Ev.now _)), by omega⟩
    · have hw2 : wrap64 (t - (L.length : Int)) = t - L.length := by unfold wrap64; omega
      by_cases e : t - (L.length : Int) < 0
      · refine ⟨-1, Ev.bind (Ev.ite_neg c h) (Ev.ite_neg d (Ev.bindc (show laws_szLineS.f L t = some (-1) by unfold laws_szLineS.f; rw [hw2, if_pos e]) (Ev.ite_pos (by decide) (Ev.now _)))), by omega⟩
      · exact ⟨t - L.length, Ev.bind (Ev.ite_neg c h) (Ev.ite_neg d (Ev.bindc (show laws_szLineS.f L t = some (t - L.length) by unfold laws_szLineS.f; rw [hw2, if_neg e]) (Ev.ite_neg e (Ev.now _)))), fun _ => ⟨by omega, by omega, hh d⟩⟩
def profF (G : List S61) : List S68 → List Int → List Int → List Int × List Int × Bool
  | [], p, q => (p, q, true)
  | x :: suf, p, q => if lineB G.length x = true then profF G suf (p.set (x.f0 : Int).toNat (wrap64 ((rd p x.f0) + 1))) (q.set (x.f0 : Int).toNat (wrap64 ((rd q x.f0) + (wrap64 ((rd_T61 G x.f0).f1 * x.f1))))) else ([], [], false)
theorem profF_len (G : List S61) : ∀ (L : List S68) (p q : List Int), p.length ≤ G.length → q.length ≤ G.length → (profF G L p q).1.length ≤ G.length ∧ (profF G L p q).2.1.length ≤ G.length
  | [], p, q, hp, hq => ⟨hp, hq⟩
  | x :: L, p, q, hp, hq => by
    rw [profF]
    split
    · exact profF_len G L _ _ (by rw [List.length_set]; exact hp) (by rw [List.length_set]; exact hq)
    · exact ⟨Nat.zero_le _, Nat.zero_le _⟩
theorem profF_bad (G : List S61) : ∀ (L : List S68) (p q : List Int), L.all (lineB G.length) = false → profF G L p q = ([], [], false)
  | [], p, q, h => by simp at h
  | x :: L, p, q, h => by
    rw [profF]
    cases c : lineB G.length x with
    | true =>
      rw [List.all_cons, c, Bool.true_and] at h
      rw [if_pos rfl]
      exact profF_bad G L _ _ h
    | false => rw [if_neg (by decide)]
theorem impl_prof (G : List S61) (hG : G.length ≤ 1048576) (L : List S68) (hn : L.length ≤ 1048576) : ∀ (suf pre : List S68) (p q : List Int), L = pre ++ suf → p.length = G.length → q.length = G.length → Ev (fun k => impl_ProfileOf.l0 k G L (L.length : Int) (pre.length : Int) p q) (profF G suf p q)
  | [], pre, p, q, e, _, _ => by
    subst e
    exact Ev.round (fun k => by simp only [impl_ProfileOf.l0]; rw [if_neg (by simp)]) (Ev.cast (Ev.now _) (by rw [profF]))
  | x :: suf, pre, p, q, e, hp, hq => by
    subst e
    have hw : wrap64 ((G.length : Int) - 1) = (G.length : Int) - 1 := by unfold wrap64; omega
    have ih := impl_prof G hG (pre ++ x :: suf) hn suf (pre ++ [x]) (p.set (x.f0 : Int).toNat (wrap64 ((rd p x.f0) + 1))) (q.set (x.f0 : Int).toNat (wrap64 ((rd q x.f0) + (wrap64 ((rd_T61 G x.f0).f1 * x.f1))))) (snoc_mid _ _ _) (by rw [List.length_set]; exact hp) (by rw [List.length_set]; exact hq)
    refine Ev.round (fun k => by simp only [impl_ProfileOf.l0]; rw [if_pos (lt_mid _ _ _), rdN_mid, up_mid pre suf x (by omega), hw]) ?_
    refine Ev.ite_pos (by omega) (Ev.ite_pos (lt_mid _ _ _) (Ev.bindc (within_eq _ _ _) ?_))
    rw [profF, lineB]
    cases h1 : (decide (0 ≤ x.f0) && decide (x.f0 ≤ (G.length : Int) - 1)) with
    | false => exact Ev.ite_neg (by decide) (Ev.now _)
    | true =>
      rw [Bool.and_eq_true, decide_eq_true_eq, decide_eq_true_eq] at h1
      refine Ev.ite_pos rfl (Ev.bindc (within_eq _ _ _) ?_)
      cases h2 : (decide (1 ≤ x.f1) && decide (x.f1 ≤ 99)) with
      | false => exact Ev.ite_neg (by decide) (Ev.now _)
      | true => exact Ev.ite_pos rfl (Ev.ite_pos h1.1 (Ev.ite_pos (by omega) (Ev.ite_pos (by omega) (Ev.ite_pos (by omega) ih))))
theorem spec_prof (G : List S61) (hG : G.length ≤ 1048576) (L : List S68) (hn : L.length ≤ 1048576) : ∀ (suf pre : List S68) (p q : List Int), L = pre ++ suf → p.length = G.length → q.length = G.length → Ev (fun k => spec_ProfileOf.l0 k G L (L.length : Int) (pre.length : Int) p q) (profF G suf p q)
  | [], pre, p, q, e, _, _ => by
    subst e
    exact Ev.round (fun k => by simp only [spec_ProfileOf.l0]; rw [if_neg (by simp)]) (Ev.cast (Ev.now _) (by rw [profF]))
  | x :: suf, pre, p, q, e, hp, hq => by
    subst e
    have ih := spec_prof G hG (pre ++ x :: suf) hn suf (pre ++ [x]) (p.set (x.f0 : Int).toNat (wrap64 ((rd p x.f0) + 1))) (q.set (x.f0 : Int).toNat (wrap64 ((rd q x.f0) + (wrap64 ((rd_T61 G x.f0).f1 * x.f1))))) (snoc_mid _ _ _) (by rw [List.length_set]; exact hp) (by rw [List.length_set]; exact hq)
    refine Ev.round (fun k => by simp only [spec_ProfileOf.l0]; rw [if_pos (lt_mid _ _ _), rdN_mid, up_mid pre suf x (by omega)]) ?_
    refine Ev.ite_pos (by omega) (Ev.ite_pos (lt_mid _ _ _) ?_)
    rw [profF, lineB]
    by_cases c0 : x.f0 < 0
    · rw [decide_eq_false (show ¬ 0 ≤ x.f0 by omega)]
      exact Ev.ite_pos c0 (Ev.now _)
    rw [decide_eq_true (show 0 ≤ x.f0 by omega)]
    refine Ev.ite_neg c0 ?_
    by_cases c1 : x.f0 ≥ (G.length : Int)
    · rw [decide_eq_false (show ¬ x.f0 ≤ (G.length : Int) - 1 by omega)]
      exact Ev.ite_pos c1 (Ev.now _)
    rw [decide_eq_true (show x.f0 ≤ (G.length : Int) - 1 by omega)]
    refine Ev.ite_neg c1 (Ev.bindc (in_eq _ _ _) ?_)
    cases h2 : (decide (1 ≤ x.f1) && decide (x.f1 ≤ 99)) with
    | false => exact Ev.ite_neg (by decide) (Ev.now _)
    | true => exact Ev.ite_pos rfl (Ev.ite_pos (by omega) (Ev.ite_pos (by omega) (Ev.ite_pos (by omega) (Ev.ite_pos (by omega) ih))))
/-- A sheet's profile. -/
def profB (G : List S61) (L : List S68) : List Int × List Int × Bool := if (goodsB G && decide ((L.length : Int) ≤ 80)) = true then profF G L (List.replicate G.length 0) (List.replicate G.length 0) else ([], [], false)
theorem profB_len (G : List S61) (L : List S68) : (profB G L).1.length ≤ G.length ∧ (profB G L).2.1.length ≤ G.length := by
  unfold profB
  split
  · exact profF_len G L _ _ (by simp) (by simp)
  · exact ⟨Nat.zero_le _, Nat.zero_le _⟩
theorem ev_implProfile (G : List S61) (hG : G.length ≤ 1048576) (L : List S68) (hn : L.length ≤ 1048576) : Ev (fun k => impl_ProfileOf.f k G L) (profB G L) := by
  unfold impl_ProfileOf.f profB
  have h := impl_prof G hG L hn L [] (List.replicate G.length 0) (List.replicate G.length 0) rfl (by simp) (by simp)
  have bad : Ev (fun k => impl_ProfileOf.j0 k G L true) ([], [], false) := Ev.round (fun k => by simp only [impl_ProfileOf.j0]; rw [if_pos trivial]) (Ev.now _)
  cases hg : goodsB G with
  | false => exact Ev.bindc (implGoodGoods G) (by rw [hg]; exact Ev.ite_neg (by decide) bad)
  | true =>
    refine Ev.bindc (implGoodGoods G) ?_
    rw [hg, Bool.true_and]
    refine Ev.ite_pos rfl ?_
    by_cases c : (L.length : Int) > 80
    · rw [decide_eq_false (show ¬ (L.length : Int) ≤ 80 by omega), decide_eq_true c]
      exact bad
    · rw [decide_eq_true (show (L.length : Int) ≤ 80 by omega), decide_eq_false c]
      refine Ev.round (fun k => by simp only [impl_ProfileOf.j0]; rw [if_neg (by decide), Int.toNat_natCast]) ?_
      exact Ev.ite_pos (by omega) (Ev.ite_pos (by omega) h)
theorem ev_specProfile (G : List S61) (hG : G.length ≤ 1048576) (hx : ∀ g ∈ G, g.f0.size ≤ 4611686018427387904) (L : List S68) (hn : L.length ≤ 1048576) : Ev (fun k => spec_ProfileOf.f k G L) (profB G L) := by
  unfold spec_ProfileOf.f profB
  have h := spec_prof G hG L hn L [] (List.replicate G.length 0) (List.replicate G.length 0) rfl (by simp) (by simp)
  have bad : Ev (fun k => spec_ProfileOf.j0 k G L true) ([], [], false) := Ev.round (fun k => by simp only [spec_ProfileOf.j0]; rw [if_pos trivial]) (Ev.now _)
  refine Ev.bind (ev_GoodGoods G hG hx) ?_
  cases hg : goodsB G with
  | false => exact Ev.ite_neg (by decide) bad
  | true =>
    rw [Bool.true_and]
    refine Ev.ite_pos rfl ?_
    by_cases c : (L.length : Int) > 80
    · rw [decide_eq_false (show ¬ (L.length : Int) ≤ 80 by omega), decide_eq_true c]
      exact bad
    · rw [decide_eq_true (show (L.length : Int) ≤ 80 by omega), decide_eq_false c]
      refine Ev.round (fun k => by simp only [spec_ProfileOf.j0]; rw [if_neg (by decide), Int.toNat_natCast]) ?_
      exact Ev.ite_pos (by omega) (Ev.ite_pos (by omega) h)
theorem ev_implSheetProfile (G : List S61) (hG : G.length ≤ 1048576) (L : List S68) (hn : L.length ≤ 1048576) : Ev (fun k => impl_SheetProfile.f k G L) (profB G L) := by
  unfold impl_SheetProfile.f
  exact Ev.bind (ev_implProfile G hG L hn) (Ev.now _)
theorem ev_specSheetProfile (G : List S61) (hG : G.length ≤ 1048576) (hx : ∀ g ∈ G, g.f0.size ≤ 4611686018427387904) (L : List S68) (hn : L.length ≤ 1048576) : Ev (fun k => spec_SheetProfile.f k G L) (profB G L) := by
  unfold spec_SheetProfile.f
  refine Ev.bind (ev_GoodSheet G hG hx L hn) ?_
  cases c : (L.all (lineB G.length) && (goodsB G && decide ((L.length : Int) ≤ 80))) with
  | true => exact Ev.ite_pos rfl (Ev.bind (ev_specProfile G hG hx L hn) (Ev.now _))
  | false =>
    refine Ev.ite_neg (by decide) (Ev.cast (Ev.now _) ?_)
    unfold profB
    split
    · rename_i h
      rw [h, Bool.and_true] at c
      rw [profF_bad G L _ _ c]
    · rfl
theorem num1_size (b : Int) : (strOfNums [b]).size = 1 := by
  simp [strOfNums, ByteArray.size]
theorem ev_markText_l : ∀ (m : Nat) (a : Int) (s : ByteArray), a ≤ (m : Int) → s.size + m ≤ 4611686018427387904 → ∃ r, Ev (fun k => laws_markText.l0 k a s) r
  | 0, a, s, ha, hs => ⟨_, Ev.round (fun k => by simp only [laws_markText.l0]; rw [if_neg (show ¬ a > 0 by omega), if_pos (by omega)]) (Ev.now _)⟩
  | m + 1, a, s, ha, hs => by
    by_cases c : a > 0
    · have ht : Int.tdiv a 10 = a / 10 := Int.tdiv_eq_ediv_of_nonneg (by omega)
      have hw : wrap64 (Int.tdiv a 10) = a / 10 := by rw [ht]; unfold wrap64; omega
      have hz : (strOfNums [wrap64 (48 + Int.tmod a 10) % 256] ++ s).size = 1 + s.size := by rw [ByteArray.size_append, num1_size]
      obtain ⟨r, ih⟩ := ev_markText_l m (a / 10) (strOfNums [wrap64 (48 + Int.tmod a 10) % 256] ++ s) (by omega) (by rw [hz]; omega)
      refine ⟨r, Ev.round (fun k => by simp only [laws_markText.l0]; rw [if_pos c, hw]) ?_⟩
      refine Ev.bindc rfl ?_
      exact Ev.ite_pos (by rw [num1_size]; omega) ih
    · exact ⟨_, Ev.round (fun k => by simp only [laws_markText.l0]; rw [if_neg c, if_pos (by omega)]) (Ev.now _)⟩
theorem ev_markText (a : Int) (ha : a ≤ 4611686018427387904) : ∃ r, Ev (fun k => laws_markText.f k a) r := by
  unfold laws_markText.f
  by_cases c : a ≤ 0
  · exact ⟨_, Ev.ite_pos c (Ev.now _)⟩
  · obtain ⟨r, h⟩ := ev_markText_l a.toNat a ⟨#[]⟩ (by omega) (by show 0 + a.toNat ≤ _; omega)
    exact ⟨r, Ev.ite_neg c h⟩
theorem ev_markGoodS_l : ∀ (m i : Nat) (l : List S61) (a : Int), i + m = l.length → 0 ≤ a → a + 2 * l.length ≤ 1000000000 + 2 * i → l.length ≤ 1048576 → ∃ r, r.length = l.length ∧ Ev (fun k => laws_markGoodS.l0 k l a (i : Int)) (a + 2 * m, r)
  | 0, i, l, a, hi, h0, h1, h2 => ⟨l, rfl, Ev.round (fun k => by simp only [laws_markGoodS.l0]; rw [if_neg (by omega)]) (Ev.cast (Ev.now _) (by simp))⟩
  | m + 1, i, l, a, hi, h0, h1, h2 => by
    obtain ⟨t, ht⟩ := ev_markText a (by omega)
    have hw : wrap64 (a + 1) = a + 1 := by unfold wrap64; omega
    have hw2 : wrap64 (a + 1 + 1) = a + 1 + 1 := by unfold wrap64; omega
    have hw3 : wrap64 ((i : Int) + 1) = ((i + 1 : Nat) : Int) := by unfold wrap64; omega
    obtain ⟨r, hr, ih⟩ := ev_markGoodS_l m (i + 1) ((l.set (i : Int).toNat (⟨t, (rd_T61 l (i : Int)).f1⟩ : S61)).set (i : Int).toNat (⟨(rd_T61 (l.set (i : Int).toNat (⟨t, (rd_T61 l (i : Int)).f1⟩ : S61)) (i : Int)).f0, wrap64 (a + 1)⟩ : S61)) (a + 1 + 1) (by simp; omega) (by omega) (by simp; omega) (by simpa using h2)
    refine ⟨r, by simpa using hr, Ev.round (fun k => by simp only [laws_markGoodS.l0]; rw [if_pos (show (i : Int) < (l.length : Int) by omega), hw3]) ?_⟩
    refine Ev.bind ht ?_
    refine Ev.ite_pos (by omega) ?_
    refine Ev.bindc rfl ?_
    rw [show wrap64 (wrap64 (a + 1) + 1) = a + 1 + 1 by rw [hw, hw2]]
    exact Ev.cast ih (by rw [Prod.mk.injEq]; exact ⟨by omega, rfl⟩)
theorem ev_markGoodS (l : List S61) (a : Int) (h0 : 0 ≤ a) (h1 : a + 2 * l.length ≤ 1000000000) (h2 : l.length ≤ 1048576) : ∃ r, r.length = l.length ∧ Ev (fun k => laws_markGoodS.f k l a) (a + 2 * l.length, r) := by
  obtain ⟨r, hr, h⟩ := ev_markGoodS_l l.length 0 l a (by omega) h0 (by omega) h2
  exact ⟨r, hr, h⟩
theorem ev_markLineS_l : ∀ (m i : Nat) (l : List S68) (a : Int), i + m = l.length → 0 ≤ a → a + 2 * l.length ≤ 1000000000 + 2 * i → l.length ≤ 1048576 → ∃ r, r.length = l.length ∧ Ev (fun k => laws_markLineS.l0 k l a (i : Int)) (a + 2 * m, r)
  | 0, i, l, a, hi, h0, h1, h2 => ⟨l, rfl, Ev.round (fun k => by simp only [laws_markLineS.l0]; rw [if_neg (by omega)]) (Ev.cast (Ev.now _) (by simp))⟩
  | m + 1, i, l, a, hi, h0, h1, h2 => by
    have hw : wrap64 (a + 1) = a + 1 := by unfold wrap64; omega
    have hw2 : wrap64 (a + 1 + 1) = a + 1 + 1 := by unfold wrap64; omega
    have hw3 : wrap64 ((i : Int) + 1) = ((i + 1 : Nat) : Int) := by unfold wrap64; omega
    obtain ⟨r, hr, ih⟩ := ev_markLineS_l m (i + 1) ((l.set (i : Int).toNat (⟨a, (rd_T68 l (i : Int)).f1⟩ : S68)).set (i : Int).toNat (⟨(rd_T68 (l.set (i : Int).toNat (⟨a, (rd_T68 l (i : Int)).f1⟩ : S68)) (i : Int)).f0, wrap64 (a + 1)⟩ : S68)) (a + 1 + 1) (by simp; omega) (by omega) (by simp; omega) (by simpa using h2)
    refine ⟨r, by simpa using hr, Ev.round (fun k => by simp only [laws_markLineS.l0]; rw [if_pos (show (i : Int) < (l.length : Int) by omega), hw3]) ?_⟩
    refine Ev.ite_pos (by omega) ?_
    refine Ev.bindc rfl ?_
    rw [show wrap64 (wrap64 (a + 1) + 1) = a + 1 + 1 by rw [hw, hw2]]
    exact Ev.cast ih (by rw [Prod.mk.injEq]; exact ⟨by omega, rfl⟩)
theorem ev_markLineS (l : List S68) (a : Int) (h0 : 0 ≤ a) (h1 : a + 2 * l.length ≤ 1000000000) (h2 : l.length ≤ 1048576) : ∃ r, r.length = l.length ∧ Ev (fun k => laws_markLineS.f k l a) (a + 2 * l.length, r) := by
  obtain ⟨r, hr, h⟩ := ev_markLineS_l l.length 0 l a (by omega) h0 (by omega) h2
  exact ⟨r, hr, h⟩
theorem ev_markSheet (G : List S61) (L : List S68) (a : Int) (h0 : 0 ≤ a) (h1 : a ≤ 10000000) (hG : G.length ≤ 1048576) (hL : L.length ≤ 1048576) : ∃ r1 r2, r1.length = G.length ∧ r2.length = L.length ∧ Ev (fun k => laws_markSheet.f k G L a) (a + 2 * G.length + 2 * L.length, r1, r2) := by
  unfold laws_markSheet.f
  obtain ⟨r1, h3, h4⟩ := ev_markGoodS G a h0 (by omega) hG
  obtain ⟨r2, h5, h6⟩ := ev_markLineS L (a + 2 * G.length) (by omega) (by omega) hL
  exact ⟨r1, r2, h3, h5, Ev.bind h4 (Ev.bind h6 (Ev.now _))⟩
theorem ev_eqProfile (a b : List Int) (ha : a.length ≤ 1048576) (hb : b.length ≤ 1048576) : Ev (fun k => laws_eqProfile.f k a b a b) true := by
  unfold laws_eqProfile.f
  have h1 := ev_eqIntS a a (by omega)
  have h2 := ev_eqIntS b b (by omega)
  rw [decide_eq_true rfl] at h1 h2
  exact Ev.bind h1 (Ev.ite_pos rfl (Ev.bind h2 (Ev.ite_pos rfl (Ev.now _))))
theorem ev_markProfile (p q : List Int) (hp : p.length ≤ 1048576) (hq : q.length ≤ 1048576) : Ev (fun k => laws_markProfile.f k p q 1) (1 + p.length + q.length, upFrom 1 p.length, upFrom (1 + p.length) q.length) := by
  unfold laws_markProfile.f
  exact Ev.bind (ev_markIntS p 1 (by omega) (by omega)) (Ev.bind (ev_markIntS q (1 + p.length) (by omega) (by omega)) (Ev.now _))
theorem ev_heldProfile (m n : Nat) (hm : m ≤ 1048576) (hn : n ≤ 1048576) : Ev (fun k => laws_heldProfile.f k (upFrom 1 m) (upFrom (1 + m) n) 1) (1 + (m : Int) + n) := by
  unfold laws_heldProfile.f
  exact Ev.bind (ev_heldIntS 1 m (by omega) (by omega)) (Ev.ite_neg (by omega) (Ev.bind (ev_heldIntS (1 + m) n (by omega) (by omega)) (Ev.ite_neg (by omega) (Ev.now _))))
end Go.Proofs.YtabpgjejedjliaaDoor.Pure
