import Derived.Test.YtojoglgjfocgiaaGLFewestBoxes1
import Derived.Test.YtojoglgjfocgiaaGLFewestBoxes2
import Derived.Test.YtojoglgjfocgiaaGLFewestBoxes3
import Derived.Test.YtojoglgjfocgiaaGLFewestBoxes4
namespace Go.Proofs.Ytojoglgjfocgiaa.Pure
open Go.RowKit Go.Proofs.Ytojoglgjfocgiaa.GLFewestBoxes Go.Proofs.YtojoglgjfocgiaaW.PrintWords Go.Proofs.YtojoglgjfocgiaaW.PrintLast Go.Proofs.YtojoglgjfocgiaaW.PrintMore Go.Proofs.YtojoglgjfocgiaaW.PrintOwn
set_option linter.unusedVariables false
set_option linter.unusedSimpArgs false
theorem Ev.bindc {α β : Type} {g : Option α} {f : Nat → α → Option β} {a : α} {r : β} (h : g = some a) (k : Ev (fun n => f n a) r) : Ev (fun n => g.bind (f n)) r := by
  subst h
  exact k
/-- One round. -/
theorem Ev.round {α : Type} {g f : Nat → Option α} {r : α} (h : ∀ k, g (k + 1) = f k) (k : Ev f r) : Ev g r := Ev.step h k
theorem Ev.eqv {α : Type} {g f : Nat → Option α} {r : α} (h : ∀ k, g k = f k) (k : Ev f r) : Ev g r := Ev.congr h k
theorem Ev.cast {α : Type} {g : Nat → Option α} {r r' : α} (h : Ev g r) (e : r = r') : Ev g r' := e ▸ h
theorem Ev.ite_pos {α : Type} {c : Prop} [Decidable c] {g f : Nat → Option α} {r : α} (hc : c) (k : Ev g r) : Ev (fun n => if c then g n else f n) r := by
  refine Ev.eqv (fun n => ?_) k
  rw [if_pos hc]
theorem Ev.ite_neg {α : Type} {c : Prop} [Decidable c] {g f : Nat → Option α} {r : α} (hc : ¬ c) (k : Ev f r) : Ev (fun n => if c then g n else f n) r := by
  refine Ev.eqv (fun n => ?_) k
  rw [if_neg hc]
theorem getD_mid {α : Type} (d : α) (pre suf : List α) (x : α) : (pre ++ x :: suf).getD (pre.length : Int).toNat d = x := by
  rw [Int.toNat_natCast, List.getD_eq_getElem?_getD, List.getElem?_append_right (Nat.le_refl _), Nat.sub_self]
  rfl
theorem rd_mid (pre suf : List Int) (x : Int) : rd (pre ++ x :: suf) (pre.length : Int) = x := getD_mid 0 pre suf x
theorem lt_mid {α : Type} (pre suf : List α) (x : α) : (pre.length : Int) < ((pre ++ x :: suf).length : Int) := by
  rw [List.length_append, List.length_cons]; omega
theorem up_mid {α : Type} (pre suf : List α) (x : α) (h : (pre ++ x :: suf).length ≤ 9223372036854775807) : wrap64 ((pre.length : Int) + 1) = ((pre ++ [x]).length : Int) := by
  rw [List.length_append, List.length_cons] at h
  rw [List.length_append, List.length_singleton]
  unfold wrap64
  omega
theorem snoc_mid {α : Type} (pre suf : List α) (x : α) : pre ++ x :: suf = (pre ++ [x]) ++ suf := by simp
/-- All numbers lie between two. -/
def allIn (l : List Int) (lo hi : Int) : Bool := l.all fun n => decide (lo ≤ n) && decide (n ≤ hi)
theorem allIn_iff {l : List Int} {lo hi : Int} : allIn l lo hi = true ↔ ∀ x ∈ l, lo ≤ x ∧ x ≤ hi := by
  unfold allIn
  rw [List.all_eq_true]
  simp
theorem ev_toIntS_l (l : List Int) (hn : l.length ≤ 35184372088832) : ∀ (suf pre : List Int), l = pre ++ suf → ∀ (z : List Int), z.length = suf.length → Ev (fun k => laws_toIntS.l0 k l (pre ++ z) (pre.length : Int)) l
  | [], pre, e, z, hz => by
    subst e
    have : z = [] := List.length_eq_zero_iff.1 hz
    subst this
    refine Ev.round (f := fun _ => some (pre ++ [])) (fun k => ?_) (Ev.now _)
    simp only [laws_toIntS.l0]
    rw [if_neg (by simp)]
  | x :: suf, pre, e, [], hz => by simp at hz
  | x :: suf, pre, e, y :: z, hz => by
    subst e
    have ih := ev_toIntS_l (pre ++ x :: suf) hn suf (pre ++ [x]) (snoc_mid _ _ _) z (by simpa using hz)
    refine Ev.round (fun k => ?_) ih
    simp only [laws_toIntS.l0]
    rw [if_pos (lt_mid _ _ _), if_pos (by omega), if_pos (lt_mid _ _ _), rd_mid, up_mid pre suf x (by omega)]
    congr 1
    rw [Int.toNat_natCast, List.set_append_right _ _ (Nat.le_refl _), Nat.sub_self, List.set_cons_zero]
    simp
theorem ev_toIntS (l : List Int) (hn : l.length ≤ 35184372088832) : Ev (fun k => laws_toIntS.f k l) l := by
  have h := ev_toIntS_l l hn l [] rfl (List.replicate l.length 0) (by simp)
  refine Ev.eqv (fun k => ?_) h
  unfold laws_toIntS.f
  rw [if_pos (by omega), Int.toNat_natCast, if_pos hn]
  rfl
theorem ev_eqIntS_l (a b : List Int) (hab : a.length = b.length) (hn : a.length ≤ 9223372036854775807) : ∀ (sa pa sb pb : List Int), a = pa ++ sa → b = pb ++ sb → pa.length = pb.length → Ev (fun k => laws_eqIntS.l0 k a b (pa.length : Int)) (decide (sa = sb))
  | [], pa, sb, pb, ea, eb, hp => by
    subst ea
    refine Ev.round (f := fun _ => some true) (fun k => ?_) (Ev.cast (Ev.now _) ?_)
    · simp only [laws_eqIntS.l0]
      rw [if_neg (by simp)]
    · have : sb = [] := by
        rw [eb] at hab
        simp at hab
        exact List.length_eq_zero_iff.1 (by omega)
      rw [this]; rfl
  | x :: sa, pa, [], pb, ea, eb, hp => by
    rw [ea, eb] at hab
    simp at hab
    omega
  | x :: sa, pa, y :: sb, pb, ea, eb, hp => by
    subst ea
    subst eb
    have h1 : ((pa.length : Nat) : Int) = (pb.length : Int) := by omega
    by_cases e : x = y
    · subst e
      have ih := ev_eqIntS_l (pa ++ x :: sa) (pb ++ x :: sb) hab hn sa (pa ++ [x]) sb (pb ++ [x]) (snoc_mid _ _ _) (snoc_mid _ _ _) (by simp [hp])
      refine Ev.round (fun k => ?_) (Ev.cast ih (by simp))
      simp only [laws_eqIntS.l0]
      rw [if_pos (lt_mid _ _ _), if_pos (by omega), if_pos (by rw [h1]; exact lt_mid _ _ _), rd_mid, h1, rd_mid, if_pos rfl, ← h1, up_mid _ _ _ hn]
    · refine Ev.round (f := fun _ => some false) (fun k => ?_) (Ev.cast (Ev.now _) (by simp [e]))
      simp only [laws_eqIntS.l0]
      rw [if_pos (lt_mid _ _ _), if_pos (by omega), if_pos (by rw [h1]; exact lt_mid _ _ _), rd_mid, h1, rd_mid, if_neg e]
theorem ev_eqIntS (a b : List Int) (hn : a.length ≤ 9223372036854775807) : Ev (fun k => laws_eqIntS.f k a b) (decide (a = b)) := by
  unfold laws_eqIntS.f
  by_cases h : a.length = b.length
  · exact Ev.ite_pos (by omega) (ev_eqIntS_l a b h hn a [] b [] rfl rfl rfl)
  · refine Ev.ite_neg (by omega) (Ev.cast (Ev.now _) ?_)
    rw [decide_eq_false]
    rintro rfl
    exact h rfl
theorem in_eq (a lo hi : Int) : spec_l1In.f a lo hi = some (decide (lo ≤ a) && decide (a ≤ hi)) := by
  unfold spec_l1In.f
  by_cases h : a ≥ lo
  · rw [if_pos h]; simp [h]
  · rw [if_neg h]; simp [h]
theorem ev_l1All_l (l : List Int) (lo hi : Int) (hn : l.length ≤ 9223372036854775807) : ∀ (suf pre : List Int), l = pre ++ suf → Ev (fun k => spec_l1All.l0 k lo hi l (l.length : Int) (pre.length : Int)) (allIn suf lo hi)
  | [], pre, e => by
    subst e
    refine Ev.round (f := fun _ => some true) (fun k => ?_) (Ev.now _)
    simp only [spec_l1All.l0]
    rw [if_neg (by simp)]
  | x :: suf, pre, e => by
    subst e
    by_cases c : (decide (lo ≤ x) && decide (x ≤ hi)) = true
    · have ih := ev_l1All_l (pre ++ x :: suf) lo hi hn suf (pre ++ [x]) (snoc_mid _ _ _)
      refine Ev.round (fun k => ?_) (Ev.cast ih (by unfold allIn; rw [List.all_cons, c, Bool.true_and]))
      simp only [spec_l1All.l0]
      rw [if_pos (lt_mid _ _ _), if_pos (by omega), if_pos (lt_mid _ _ _), rd_mid, in_eq, Option.bind_some, if_pos c, up_mid _ _ _ hn]
    · refine Ev.round (f := fun _ => some false) (fun k => ?_) (Ev.cast (Ev.now _) (by unfold allIn; rw [List.all_cons, Bool.eq_false_iff.2 c, Bool.false_and]))
      simp only [spec_l1All.l0]
      rw [if_pos (lt_mid _ _ _), if_pos (by omega), if_pos (lt_mid _ _ _), rd_mid, in_eq, Option.bind_some, if_neg c]
theorem ev_l1All (l : List Int) (lo hi : Int) (hn : l.length ≤ 9223372036854775807) : Ev (fun k => spec_l1All.f k l lo hi) (allIn l lo hi) := ev_l1All_l l lo hi hn l [] rfl
theorem allWithin_eq (l : List Int) (lo hi : Int) : impl_allWithin.f l lo hi = some (allIn l lo hi) := rfl
def goodItems (l : List Int) : Bool := decide ((l.length : Int) ≤ 9) && allIn l 1 20
theorem ev_GoodItems (l : List Int) (hn : l.length ≤ 9223372036854775807) : Ev (fun k => spec_GoodItems.f k l) (goodItems l) := by
  unfold spec_GoodItems.f
  by_cases h : (l.length : Int) ≤ 9
  · refine Ev.ite_pos h (Ev.bind (ev_l1All l 1 20 hn) (Ev.cast (Ev.now _) ?_))
    simp [goodItems, h]
  · refine Ev.ite_neg h (Ev.cast (Ev.now _) ?_)
    simp [goodItems, h]
theorem implGoodItems (l : List Int) : impl_GoodItems.f l = some (goodItems l) := by
  unfold impl_GoodItems.f
  by_cases h : (l.length : Int) ≤ 9
  · rw [if_pos h, allWithin_eq]
    simp [goodItems, h]
  · rw [if_neg h]
    simp [goodItems, h]
theorem goodItems_iff {l : List Int} (h : goodItems l = true) : l.length ≤ 9 ∧ ∀ x ∈ l, 1 ≤ x ∧ x ≤ 20 := by
  unfold goodItems at h
  rw [Bool.and_eq_true, decide_eq_true_iff, allIn_iff] at h
  exact ⟨by omega, h.2⟩
theorem mn_eq (a b : Int) : mn a b = min a b := by unfold mn; split <;> omega
def optLoop (g : List Int → Int) (x : Int) (bx : List Int) : Nat → Int → Int → Int
  | 0, _, Z => Z
  | m + 1, k, Z => if rd bx k + x ≤ 20 then min (g (bx.set k.toNat (rd bx k + x))) (optLoop g x bx m (k + 1) Z) else optLoop g x bx m (k + 1) Z
def opt (l : List Int) : Nat → Int → List Int → Int
  | 0, _, bx => bx.length
  | m + 1, F, bx => optLoop (opt l m (F + 1)) (rd l F) bx bx.length 0 (opt l m (F + 1) (bx ++ [rd l F]))
theorem optLoop_le (g : List Int → Int) (x : Int) (bx : List Int) : ∀ (n : Nat) (k Z : Int), optLoop g x bx n k Z ≤ Z
  | 0, _, _ => Int.le_refl _
  | n + 1, k, Z => by
    have ih := optLoop_le g x bx n (k + 1) Z
    rw [optLoop]
    split <;> omega
theorem optLoop_ge (g : List Int → Int) (x : Int) (bx : List Int) (hg : ∀ b : List Int, b.length = bx.length → (bx.length : Int) ≤ g b) : ∀ (n : Nat) (k Z : Int), (bx.length : Int) ≤ Z → (bx.length : Int) ≤ optLoop g x bx n k Z
  | 0, _, _, h => h
  | n + 1, k, Z, h => by
    have ih := optLoop_ge g x bx hg n (k + 1) Z h
    have h2 := hg (bx.set k.toNat (rd bx k + x)) (by simp)
    rw [optLoop]
    split <;> omega
theorem opt_le (l : List Int) : ∀ (m : Nat) (F : Int) (bx : List Int), opt l m F bx ≤ (bx.length : Int) + m
  | 0, F, bx => by simp [opt]
  | m + 1, F, bx => by
    have ih := opt_le l m (F + 1) (bx ++ [rd l F])
    have h := optLoop_le (opt l m (F + 1)) (rd l F) bx bx.length 0 (opt l m (F + 1) (bx ++ [rd l F]))
    rw [List.length_append, List.length_singleton] at ih
    rw [opt]
    omega
theorem opt_ge (l : List Int) : ∀ (m : Nat) (F : Int) (bx : List Int), (bx.length : Int) ≤ opt l m F bx
  | 0, F, bx => by simp [opt]
  | m + 1, F, bx => by
    rw [opt]
    refine optLoop_ge _ _ _ (fun b hb => by have := opt_ge l m (F + 1) b; omega) _ _ _ ?_
    have := opt_ge l m (F + 1) (bx ++ [rd l F])
    rw [List.length_append, List.length_singleton] at this
    omega
theorem loop_min (f : List Int → Int → Int) (g : List Int → Int) (x : Int) (bx : List Int) (h : ∀ b mo, f b mo = min mo (g b)) : ∀ (n : Nat) (k mo Z : Int), min (impl_fewest.loop f x bx n k mo) Z = min mo (optLoop g x bx n k Z)
  | 0, k, mo, Z => rfl
  | n + 1, k, mo, Z => by
    rw [impl_fewest.loop, loop_min f g x bx h n (k + 1), optLoop]
    split
    · rw [mn_eq, h]; omega
    · rfl
theorem few_min (l : List Int) : ∀ (m : Nat) (F : Int) (bx : List Int) (mo : Int), impl_fewest.few l m F bx mo = min mo (opt l m F bx)
  | 0, F, bx, mo => by
    rw [impl_fewest.few, opt]
    split <;> omega
  | m + 1, F, bx, mo => by
    have hg := opt_ge l (m + 1) F bx
    rw [impl_fewest.few]
    split
    · omega
    · rw [mn_eq, few_min l m (F + 1), opt, ← loop_min (impl_fewest.few l m (F + 1)) (opt l m (F + 1)) (rd l F) bx (few_min l m (F + 1)) bx.length 0 mo]
      omega
theorem ev_few (l : List Int) (hl : l.length ≤ 9) (hit : ∀ x ∈ l, 1 ≤ x ∧ x ≤ 20) : ∀ (m F : Nat) (bx : List Int) (mo : Int), F + m = l.length → (∀ b ∈ bx, 0 ≤ b ∧ b ≤ 20) → bx.length + m ≤ 20 → Ev (fun k => spec_l12Few.f k (l.drop F) (bx.map fun b => 20 - b) mo) (impl_fewest.few l m (F : Int) bx mo)
  | 0, F, bx, mo, hF, hb, hn => by
    have hd : l.drop F = [] := List.drop_of_length_le (by omega)
    rw [hd, impl_fewest.few]
    refine Ev.round (fun k => by simp only [spec_l12Few.f]; rw [List.length_map]) ?_
    by_cases c : (bx.length : Int) ≥ mo
    · rw [if_pos c]; exact Ev.ite_pos c (Ev.now _)
    · rw [if_neg c]; exact Ev.ite_neg c (Ev.ite_pos rfl (Ev.now _))
  | m + 1, F, bx, mo, hF, hb, hn => by
    have hd : l.drop F = rd l (F : Int) :: l.drop (F + 1) := by
      rw [List.drop_eq_getElem_cons (show F < l.length by omega)]
      congr 1
      show _ = l.getD (F : Int).toNat 0
      rw [Int.toNat_natCast, List.getD_eq_getElem?_getD, List.getElem?_eq_getElem (show F < l.length by omega)]
      rfl
    have hx := hit (rd l (F : Int)) (by
      have : rd l (F : Int) ∈ l.drop F := by rw [hd]; simp
      exact List.mem_of_mem_drop this)
    have ih := ev_few l hl hit m (F + 1)
    have hF1 : ((F + 1 : Nat) : Int) = (F : Int) + 1 := rfl
    rw [hF1] at ih
    have hle : ∀ b q, impl_fewest.few l m ((F : Int) + 1) b q ≤ q := fun b q => by rw [few_min]; omega
    have hmn : ∀ b q, mn q (impl_fewest.few l m ((F : Int) + 1) b q) = impl_fewest.few l m ((F : Int) + 1) b q := fun b q => by rw [mn_eq]; have := hle b q; omega
    have hloop : ∀ (n j : Nat) (q : Int), j + n = bx.length → Ev (fun k => spec_l12Few.l0 k (l.drop F) (bx.map fun b => 20 - b) q ((bx.map fun b => 20 - b).length : Int) (j : Int)) (mn (impl_fewest.loop (impl_fewest.few l m ((F : Int) + 1)) (rd l (F : Int)) bx n (j : Int) q) (impl_fewest.few l m ((F : Int) + 1) (bx ++ [rd l (F : Int)]) (impl_fewest.loop (impl_fewest.few l m ((F : Int) + 1)) (rd l (F : Int)) bx n (j : Int) q))) := by
      intro n
      induction n with
      | zero =>
        intro j q hj
        rw [impl_fewest.loop, hmn, List.length_map, hd]
        refine Ev.round (fun k => by simp only [spec_l12Few.l0]; rw [if_neg (show ¬ (j : Int) < (bx.length : Int) by omega)]) ?_
        refine Ev.ite_pos (by rw [List.length_cons]; omega) (Ev.bindc rfl (Ev.ite_pos (by simp; omega) (Ev.bindc rfl (Ev.ite_pos (by rw [List.length_cons]; omega) (Ev.bindc rfl (Ev.ite_pos (by simp; omega) ?_))))))
        have hw : wrap64 (20 - rd (rd l (F : Int) :: l.drop (F + 1)) 0) = 20 - rd l (F : Int) := by
          show wrap64 (20 - rd l (F : Int)) = _
          unfold wrap64; omega
        have h := ih (bx ++ [rd l (F : Int)]) q (by omega) (fun b hbm => by
          rcases List.mem_append.1 hbm with hbm | hbm
          · exact hb b hbm
          · rw [List.mem_singleton.1 hbm]; omega) (by rw [List.length_append, List.length_singleton]; omega)
        rw [hw]
        refine Ev.bind (a := impl_fewest.few l m ((F : Int) + 1) (bx ++ [rd l (F : Int)]) q) ?_ (Ev.now _)
        simpa using h
      | succ n ihn =>
        intro j q hj
        have hjl : (j : Int) < (bx.length : Int) := by omega
        have hbj := hb (rd bx (j : Int)) (by
          show bx.getD (j : Int).toNat 0 ∈ bx
          rw [List.getD_eq_getElem?_getD, List.getElem?_eq_getElem (by omega)]
          exact List.getElem_mem _)
        have hr : rd (bx.map fun b => 20 - b) (j : Int) = 20 - rd bx (j : Int) := by
          show (bx.map fun b => 20 - b).getD (j : Int).toNat 0 = 20 - bx.getD (j : Int).toNat 0
          rw [Int.toNat_natCast, List.getD_eq_getElem?_getD, List.getD_eq_getElem?_getD, List.getElem?_map, List.getElem?_eq_getElem (show j < bx.length by omega)]
          rfl
        have hw : wrap64 ((j : Int) + 1) = ((j + 1 : Nat) : Int) := by unfold wrap64; omega
        have hr0 : rd (l.drop F) 0 = rd l (F : Int) := by rw [hd]; rfl
        have hd1 : (l.drop F).drop 1 = l.drop (F + 1) := by rw [hd]; rfl
        have hdl : 1 ≤ (l.drop F).length := by rw [hd, List.length_cons]; omega
        have hj1 : ((j + 1 : Nat) : Int) = (j : Int) + 1 := rfl
        have hsl : (bx.map fun b => 20 - b).length = bx.length := List.length_map _
        rw [impl_fewest.loop]
        refine Ev.round (fun k => by simp only [spec_l12Few.l0]; rw [if_pos (show (j : Int) < ((bx.map fun b => 20 - b).length : Int) by rw [hsl]; exact hjl), hr, hr0, hw, hd1]) ?_
        refine Ev.ite_pos (by omega) (Ev.ite_pos (by rw [hsl]; exact hjl) (Ev.ite_pos (by omega) ?_))
        by_cases c : rd bx (j : Int) + rd l (F : Int) ≤ 20
        · rw [if_pos c]
          refine Ev.ite_pos (by omega) (Ev.bindc rfl (Ev.ite_pos (by rw [hsl]; simp; omega) (Ev.bindc rfl ?_)))
          simp only [List.nil_append]
          refine Ev.ite_pos (by rw [hsl]; exact hjl) (Ev.ite_pos (by omega) ?_)
          have hset : (bx.map fun b => 20 - b).set (j : Int).toNat (wrap64 (rd (bx.map fun b => 20 - b) (j : Int) - rd l (F : Int))) = (bx.set (j : Int).toNat (rd bx (j : Int) + rd l (F : Int))).map fun b => 20 - b := by
            rw [List.map_set, hr]
            congr 1
            unfold wrap64
            omega
          have h := ih (bx.set (j : Int).toNat (rd bx (j : Int) + rd l (F : Int))) q (by omega) (fun b hbm => by
            rcases List.mem_or_eq_of_mem_set hbm with hbm | rfl
            · exact hb b hbm
            · omega) (by rw [List.length_set]; omega)
          rw [hmn (bx.set (j : Int).toNat (rd bx (j : Int) + rd l (F : Int))) q]
          have hh := ihn (j + 1) (impl_fewest.few l m ((F : Int) + 1) (bx.set (j : Int).toNat (rd bx (j : Int) + rd l (F : Int))) q) (by omega)
          rw [hset]
          exact Ev.bind h hh
        · rw [if_neg c]
          exact Ev.ite_neg (by omega) (ihn (j + 1) q (by omega))
    rw [impl_fewest.few]
    refine Ev.round (fun k => by simp only [spec_l12Few.f]; rfl) ?_
    by_cases c : (bx.length : Int) ≥ mo
    · rw [if_pos c]
      exact Ev.ite_pos (by rw [List.length_map]; exact c) (Ev.now _)
    · rw [if_neg c]
      refine Ev.ite_neg (by rw [List.length_map]; exact c) (Ev.ite_neg (by rw [hd, List.length_cons]; omega) ?_)
      exact hloop bx.length 0 mo (by omega)
theorem same_Fewest (l : List Int) (hn : l.length ≤ 9223372036854775807) : ∃ r : Int × Bool, Ev (fun k => spec_FewestBoxes.f k l) r ∧ impl_FewestBoxes.f l = some r := by
  unfold spec_FewestBoxes.f impl_FewestBoxes.f
  rw [implGoodItems, Option.bind_some]
  cases hg : goodItems l with
  | true =>
    obtain ⟨hl, hit⟩ := goodItems_iff hg
    have hw : wrap64 ((l.length : Int) + 1) = (l.length : Int) + 1 := by unfold wrap64; omega
    have h := ev_few l hl hit l.length 0 [] ((l.length : Int) + 1) (by omega) (by simp) (by simp; omega)
    rw [if_pos rfl, if_pos ⟨hl, List.all_eq_true.2 (fun x hx => by have := hit x hx; simp [this.1, this.2])⟩]
    refine ⟨_, Ev.bind (ev_GoodItems l hn) (Ev.ite_pos hg (Ev.bind ?_ (Ev.now _))), rfl⟩
    rw [hw]
    have e : impl_fewest.few l l.length 0 [] l.length = impl_fewest.few l l.length ((0 : Nat) : Int) [] ((l.length : Int) + 1) := by
      rw [few_min, few_min]
      have := opt_le l l.length 0 []
      rw [List.length_nil] at this
      have h2 : ((0 : Nat) : Int) = 0 := rfl
      rw [h2]
      omega
    rw [e]
    exact h
  | false =>
    exact ⟨_, Ev.bind (ev_GoodItems l hn) (Ev.ite_neg (by simp [hg]) (Ev.now _)), rfl⟩
end Go.Proofs.Ytojoglgjfocgiaa.Pure
