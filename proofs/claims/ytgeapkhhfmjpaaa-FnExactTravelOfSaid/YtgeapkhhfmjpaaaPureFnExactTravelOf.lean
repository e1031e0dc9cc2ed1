/- FnExactTravelOf: at all lists of ints, each at most 1048576 long, the program's TravelOf answers as the reference's, and leaves its arguments as they were. -/
import Derived.Test.YtgeapkhhfmjpaaaGLTravelOf0
import Derived.Test.YtgeapkhhfmjpaaaGLTravelOf2
import Derived.Test.YtgeapkhhfmjpaaaGLTravelOf3
import Derived.Test.YtgeapkhhfmjpaaaGLTravelOf4
import Derived.Test.YtgeapkhhfmjpaaaGLTravelOf6
import Derived.Test.YtgeapkhhfmjpaaaGLTravelOf7
import Derived.Test.YtgeapkhhfmjpaaaComTravelOf
namespace Go.Proofs.Ytgeapkhhfmjpaaa.Pure
open Go.RowKit Go.Proofs.Ytgeapkhhfmjpaaa.GLTravelOf Go.Proofs.YtgeapkhhfmjpaaaW.PrintWords Go.Proofs.YtgeapkhhfmjpaaaW.PrintLast Go.Proofs.YtgeapkhhfmjpaaaW.PrintMore Go.Proofs.YtgeapkhhfmjpaaaW.PrintOwn
set_option linter.unusedVariables false
set_option linter.unusedSimpArgs false
/-- How far each slot's good is carried. -/
def travL (picks counts ways : List Int) : Nat → List Int → List S39
  | _, [] => []
  | i, k :: l => (⟨(mkZ (rd ways (i : Int) * rd picks k) (rd counts k)).1, (mkZ (rd ways (i : Int) * rd picks k) (rd counts k)).2⟩ : S39) :: travL picks counts ways (i + 1) l
theorem rd_mem {l : List Int} {i : Int} (h0 : 0 ≤ i) (h1 : i < (l.length : Int)) : rd l i ∈ l := by
  unfold rd
  rw [List.getD_eq_getElem?_getD, List.getElem?_eq_getElem (by omega)]
  exact List.getElem_mem _
structure Said (picks counts ways owners : List Int) : Prop where
  p : ∀ x ∈ picks, 1 ≤ x ∧ x ≤ 30
  c : ∀ x ∈ counts, 1 ≤ x ∧ x ≤ 10
  w : ∀ x ∈ ways, 0 ≤ x ∧ x ≤ 1000
  o : ∀ x ∈ owners, 0 ≤ x ∧ x < (counts.length : Int)
  lp : picks.length = counts.length
  lo : owners.length = ways.length
  l10 : ways.length ≤ 10
theorem said_num {picks counts ways owners : List Int} (h : Said picks counts ways owners) {i k : Int} (h0 : 0 ≤ i) (h1 : i < (ways.length : Int)) (h2 : 0 ≤ k) (h3 : k < (counts.length : Int)) :
    0 ≤ rd ways i * rd picks k ∧ rd ways i * rd picks k ≤ 30000 ∧ 1 ≤ rd counts k ∧ rd counts k ≤ 10 := by
  have a := h.w _ (rd_mem h0 h1)
  have b := h.p _ (rd_mem h2 (by rw [h.lp]; exact h3))
  have c := h.c _ (rd_mem h2 h3)
  refine ⟨Int.mul_nonneg a.1 (by omega), ?_, c⟩
  have := Int.mul_le_mul (a := rd ways i) (c := 1000) (b := rd picks k) (d := 30) a.2 b.2 (by omega) (by omega)
  omega
theorem ev_travel_spec (picks counts ways owners : List Int) (h : Said picks counts ways owners) (r : Int × Int × Bool) : ∀ (suf pre : List Int) (acc : List S39), owners = pre ++ suf → acc.length = pre.length →
    Ev (fun k => spec_SumFracs.f k (acc ++ travL picks counts ways pre.length suf)) r → Ev (fun k => spec_TravelOf.l0 k picks counts ways acc owners (owners.length : Int) (pre.length : Int)) r
  | [], pre, acc, e, ha, hr => by
    simp only [travL, List.append_nil] at hr
    refine Ev.round (fun k => ?_) (Ev.bind hr (f := fun _ t => some (t.1, t.2.1, t.2.2)) (Ev.now _))
    simp only [spec_TravelOf.l0]
    rw [if_neg (by subst e; simp)]
  | x :: suf, pre, acc, e, ha, hr => by
    have h1 : (pre.length : Int) < (owners.length : Int) := by rw [e]; exact lt_mid _ _ _
    have h2 : rd owners (pre.length : Int) = x := by rw [e]; exact rd_mid _ _ _
    have hlo := h.lo
    have hl10 := h.l10
    have hlp := h.lp
    have h3 : wrap64 ((pre.length : Int) + 1) = ((pre ++ [x]).length : Int) := by rw [List.length_append, List.length_singleton]; unfold wrap64; omega
    have hx := h.o x (by rw [e]; simp)
    have hn := said_num h (i := (pre.length : Int)) (k := x) (by omega) (by omega) hx.1 hx.2
    have ih := ev_travel_spec picks counts ways owners h r suf (pre ++ [x]) (acc ++ [(⟨(mkZ (rd ways (pre.length : Int) * rd picks x) (rd counts x)).1, (mkZ (rd ways (pre.length : Int) * rd picks x) (rd counts x)).2⟩ : S39)]) (by rw [e]; simp) (by simp [ha]) (by
      simp only [travL] at hr
      simpa using hr)
    refine Ev.round (fun k => ?_) (Ev.bind (ev_l1Make (rd ways (pre.length : Int) * rd picks x) (rd counts x) hn.1 (by omega) (by omega) (by omega)) (f := fun k t => if acc.length < 8796093022208 then spec_TravelOf.l0 k picks counts ways (acc ++ [(⟨t.1, t.2⟩ : S39)]) owners (owners.length : Int) (wrap64 ((pre.length : Int) + 1)) else none) ?_)
    · simp only [spec_TravelOf.l0]
      rw [if_pos h1, if_pos (by omega), if_pos h1, if_pos (by omega), h2, if_pos hx.1, if_pos (by omega), if_pos (by omega), wrap_id (x := rd ways (pre.length : Int) * rd picks x) (by omega) (by omega)]
    · refine Ev.ite_pos (by omega) ?_
      rw [h3]
      exact ih
theorem ev_travel_impl (picks counts ways owners : List Int) (h : Said picks counts ways owners) (r : Int × Int × Bool) : ∀ (suf pre : List Int) (acc : List S39), owners = pre ++ suf → acc.length = pre.length →
    Ev (fun k => impl_sumFracs.f k (acc ++ travL picks counts ways pre.length suf)) r → Ev (fun k => impl_travel.l0 k picks counts ways acc owners (owners.length : Int) (pre.length : Int)) r
  | [], pre, acc, e, ha, hr => by
    simp only [travL, List.append_nil] at hr
    refine Ev.round (fun k => ?_) (Ev.bind hr (f := fun _ t => some (t.1, t.2.1, t.2.2)) (Ev.now _))
    simp only [impl_travel.l0]
    rw [if_neg (by subst e; simp)]
  | x :: suf, pre, acc, e, ha, hr => by
    have h1 : (pre.length : Int) < (owners.length : Int) := by rw [e]; exact lt_mid _ _ _
    have h2 : rd owners (pre.length : Int) = x := by rw [e]; exact rd_mid _ _ _
    have hlo := h.lo
    have hl10 := h.l10
    have hlp := h.lp
    have h3 : wrap64 ((pre.length : Int) + 1) = ((pre ++ [x]).length : Int) := by rw [List.length_append, List.length_singleton]; unfold wrap64; omega
    have hx := h.o x (by rw [e]; simp)
    have hn := said_num h (i := (pre.length : Int)) (k := x) (by omega) (by omega) hx.1 hx.2
    have ih := ev_travel_impl picks counts ways owners h r suf (pre ++ [x]) (acc ++ [(⟨(mkZ (rd ways (pre.length : Int) * rd picks x) (rd counts x)).1, (mkZ (rd ways (pre.length : Int) * rd picks x) (rd counts x)).2⟩ : S39)]) (by rw [e]; simp) (by simp [ha]) (by
      simp only [travL] at hr
      simpa using hr)
    have hm := ev_lowest (rd ways (pre.length : Int) * rd picks x) (rd counts x) hn.1 (by omega) (by omega) (by omega)
    rw [if_pos (mkZ_good hn.1 (by omega) (by omega) (by omega))] at hm
    refine Ev.round (fun k => ?_) (Ev.bind hm (f := fun k t => if acc.length < 8796093022208 then impl_travel.l0 k picks counts ways (acc ++ [(⟨t.1, t.2.1⟩ : S39)]) owners (owners.length : Int) (wrap64 ((pre.length : Int) + 1)) else none) ?_)
    · simp only [impl_travel.l0]
      rw [if_pos h1, if_pos (by omega), if_pos h1, if_pos (by omega), h2, if_pos hx.1, if_pos (by omega), if_pos (by omega), wrap_id (x := rd ways (pre.length : Int) * rd picks x) (by omega) (by omega)]
    · refine Ev.ite_pos (by omega) ?_
      rw [h3]
      exact ih
theorem travL_nonneg (picks counts ways owners : List Int) (h : Said picks counts ways owners) : ∀ (suf pre : List Int), owners = pre ++ suf → ∀ x ∈ travL picks counts ways pre.length suf, 0 ≤ x.f0
  | [], pre, e, x, hx => by simp [travL] at hx
  | k :: suf, pre, e, x, hx => by
    have h1 : (pre.length : Int) < (owners.length : Int) := by rw [e]; exact lt_mid _ _ _
    have hk := h.o k (by rw [e]; simp)
    have hlo := h.lo
    have hn := said_num h (i := (pre.length : Int)) (k := k) (by omega) (by omega) hk.1 hk.2
    simp only [travL] at hx
    rcases List.mem_cons.1 hx with rfl | hx
    · exact (mkZ_pos hn.1 (by omega)).1
    · exact travL_nonneg picks counts ways owners h suf (pre ++ [k]) (by rw [e]; simp) x (by simpa using hx)
theorem travL_length (picks counts ways : List Int) : ∀ (l : List Int) (i : Nat), (travL picks counts ways i l).length = l.length
  | [], _ => rfl
  | x :: l, i => by rw [travL, List.length_cons, travL_length picks counts ways l]; rfl
theorem ev_l4Flow (l : List Int) (hn : l.length ≤ 9223372036854775807) : Ev (fun k => spec_l4Flow.f k l) ((decide (1 ≤ (l.length : Int)) && decide ((l.length : Int) ≤ 8)) && allIn l 1 30) := by
  unfold spec_l4Flow.f
  refine Ev.bindc (in_eq _ _ _) ?_
  cases (decide (1 ≤ (l.length : Int)) && decide ((l.length : Int) ≤ 8)) with
  | true => exact Ev.ite_pos rfl (Ev.bind (ev_l1All l 1 30 hn) (Ev.cast (Ev.now _) (by simp)))
  | false => exact Ev.ite_neg (by simp) (Ev.now _)
theorem implIsFlow (l : List Int) : impl_isFlow.f l = some ((decide (1 ≤ (l.length : Int)) && decide ((l.length : Int) ≤ 8)) && allIn l 1 30) := by
  unfold impl_isFlow.f
  rw [within_eq, Option.bind_some]
  cases (decide (1 ≤ (l.length : Int)) && decide ((l.length : Int) ≤ 8)) with
  | true => rw [if_pos rfl, allWithin_eq]; simp
  | false => rfl
def pickedB (picks counts ways : List Int) : Bool := ((decide (1 ≤ (picks.length : Int)) && decide ((picks.length : Int) ≤ 8)) && allIn picks 1 30) && (decide ((counts.length : Int) = (picks.length : Int)) && (housedB counts && (decide ((ways.length : Int) = sumFrom 0 counts) && allIn ways 0 1000)))
theorem ev_l17All (picks counts ways : List Int) (h0 : picks.length ≤ 1048576) (h1 : counts.length ≤ 1048576) (h2 : ways.length ≤ 1048576) : Ev (fun k => spec_l17All.f k picks counts ways) (pickedB picks counts ways) := by
  unfold spec_l17All.f pickedB
  refine Ev.bind (ev_l4Flow picks (by omega)) ?_
  cases ((decide (1 ≤ (picks.length : Int)) && decide ((picks.length : Int) ≤ 8)) && allIn picks 1 30) with
  | false => exact Ev.ite_neg (by simp) (Ev.now _)
  | true =>
    refine Ev.ite_pos rfl ?_
    by_cases h : (counts.length : Int) = (picks.length : Int)
    · refine Ev.ite_pos h (Ev.bind (ev_l17Counts counts _ (by omega)) ?_)
      rw [counts_same, decide_eq_true h, ← Bool.and_assoc (housedB counts)]
      cases (housedB counts && decide ((ways.length : Int) = sumFrom 0 counts)) with
      | true => exact Ev.ite_pos rfl (Ev.bind (ev_l1All ways 0 1000 (by omega)) (Ev.cast (Ev.now _) (by simp)))
      | false => exact Ev.ite_neg (by simp) (Ev.now _)
    · refine Ev.ite_neg h ?_
      rw [decide_eq_false h]
      exact Ev.now _
theorem ev_arePicked (picks counts ways : List Int) (h1 : counts.length ≤ 1048576) : Ev (fun k => impl_arePicked.f k picks counts ways) (pickedB picks counts ways) := by
  unfold impl_arePicked.f pickedB
  refine Ev.bindc (implIsFlow picks) ?_
  cases ((decide (1 ≤ (picks.length : Int)) && decide ((picks.length : Int) ≤ 8)) && allIn picks 1 30) with
  | false => exact Ev.ite_neg (by simp) (Ev.now _)
  | true =>
    refine Ev.ite_pos rfl ?_
    by_cases h : (counts.length : Int) = (picks.length : Int)
    · refine Ev.ite_pos h (Ev.bind (ev_areWays counts ways (by omega)) (Ev.cast (Ev.now _) ?_))
      rw [decide_eq_true h]
      rfl
    · refine Ev.ite_neg h ?_
      rw [decide_eq_false h]
      exact Ev.now _
theorem countIn_good (n : Int) : ∀ (owners own own' : List Int), countIn n own owners = some own' → ∀ x ∈ owners, 0 ≤ x ∧ x < n
  | [], _, _, _, x, hx => by simp at hx
  | y :: l, own, own', h, x, hx => by
    simp only [countIn] at h
    split at h
    case isFalse => cases h
    case isTrue hy =>
    rcases List.mem_cons.1 hx with rfl | hx
    · exact hy
    · exact countIn_good n l _ own' h x hx
theorem said_of {picks counts ways owners : List Int} (hn : owners.length ≤ 1048576) (h : pickedB picks counts ways = true) (hf : fitB counts owners = true) : Said picks counts ways owners := by
  unfold pickedB at h
  simp only [Bool.and_eq_true, decide_eq_true_iff, allIn_iff] at h
  have hb := housedB_iff h.2.2.1
  have hs := fitB_sum (by omega) hf
  have ho : ∀ x ∈ owners, 0 ≤ x ∧ x < (counts.length : Int) := by
    unfold fitB at hf
    split at hf
    case h_2 => cases hf
    case h_1 own hown => exact countIn_good _ _ _ _ hown
  exact ⟨h.1.2, hb.2.1, h.2.2.2.2, ho, by omega, by omega, by omega⟩
theorem travel_both (a b c d : List Int) (ha : a.length ≤ 1048576) (hb : b.length ≤ 1048576) (hc : c.length ≤ 1048576) (hd : d.length ≤ 1048576) :
    ∃ r : Int × Int × Bool, Ev (fun k => spec_TravelOf.f k a b c d) r ∧ Ev (fun k => impl_TravelOf.f k a b c d) r := by
  unfold spec_TravelOf.f impl_TravelOf.f
  have hs := ev_l17All a b c ha hb hc
  have hi := ev_arePicked a b c hb
  have bad : ∀ g : Nat → Option (Int × Int × Bool), (∀ k, g k = spec_TravelOf.j0 k a b c d true) → Ev g (0, 0, false) := fun g hg =>
    Ev.eqv hg (Ev.round (f := fun _ => some (0, 0, false)) (fun k => by simp only [spec_TravelOf.j0]; rw [if_pos trivial]) (Ev.now _))
  cases hp : pickedB a b c with
  | false =>
    rw [hp] at hs hi
    refine ⟨(0, 0, false), Ev.bind hs ?_, Ev.bind hi ?_⟩
    · refine Ev.ite_neg (by simp) ?_
      exact bad _ (fun _ => rfl)
    · exact Ev.ite_neg (by simp) (Ev.now _)
  | true =>
    rw [hp] at hs hi
    have hf1 := ev_l17Fit b d (by omega) (by omega)
    have hf2 := ev_fit b d (by omega) (by omega)
    cases hf : fitB b d with
    | false =>
      rw [hf] at hf1 hf2
      refine ⟨(0, 0, false), Ev.bind hs ?_, Ev.bind hi ?_⟩
      · refine Ev.ite_pos rfl ?_
        by_cases hl : (d.length : Int) = (c.length : Int)
        · refine Ev.ite_pos hl (Ev.bind hf1 ?_)
          exact bad _ (fun _ => rfl)
        · refine Ev.ite_neg hl ?_
          exact bad _ (fun _ => rfl)
      · refine Ev.ite_pos rfl (Ev.bind hf2 ?_)
        exact Ev.ite_neg (by simp) (Ev.now _)
    | true =>
      rw [hf] at hf1 hf2
      have hsd := said_of hd hp hf
      have hlo := hsd.lo
      have hl10 := hsd.l10
      have hnn := travL_nonneg a b c d hsd d [] rfl
      have hln := travL_length a b c d 0
      refine ⟨sumZ (0, 1) (travL a b c 0 d), Ev.bind hs ?_, Ev.bind hi ?_⟩
      · refine Ev.ite_pos rfl (Ev.ite_pos (by omega) (Ev.bind hf1 ?_))
        refine Ev.round (fun k => ?_) (ev_travel_spec a b c d hsd _ d [] [] rfl rfl (ev_specSumFracs _ (by rw [List.nil_append, List.length_nil, hln]; omega) hnn))
        simp only [spec_TravelOf.j0]
        rw [if_neg (by decide)]
        rfl
      · refine Ev.ite_pos rfl (Ev.bind hf2 (Ev.ite_pos rfl ?_))
        refine Ev.bind (a := sumZ (0, 1) (travL a b c 0 d)) ?_ (Ev.now _)
        unfold impl_travel.f
        exact ev_travel_impl a b c d hsd _ d [] [] rfl rfl (ev_implSumFracs _ (by rw [List.nil_append, List.length_nil, hln]; omega) hnn)
theorem FnExactTravelOf : laws_FnExactTravelOf.Pure := by
  intro a b c d ⟨ha, _⟩ ⟨hb, _⟩ ⟨hc, _⟩ ⟨hd, _⟩
  apply Ev.rounds
  unfold laws_FnExactTravelOf.f
  by_cases h0 : (a.length : Int) > 1048576
  · exact Ev.ite_pos h0 (Ev.now _)
  refine Ev.ite_neg h0 ?_
  by_cases h1 : (b.length : Int) > 1048576
  · exact Ev.ite_pos h1 (Ev.now _)
  refine Ev.ite_neg h1 ?_
  by_cases h2 : (c.length : Int) > 1048576
  · exact Ev.ite_pos h2 (Ev.now _)
  refine Ev.ite_neg h2 ?_
  by_cases h3 : (d.length : Int) > 1048576
  · exact Ev.ite_pos h3 (Ev.now _)
  refine Ev.ite_neg h3 ?_
  have ta := ev_toIntS a (by omega)
  have tb := ev_toIntS b (by omega)
  have tc := ev_toIntS c (by omega)
  have td := ev_toIntS d (by omega)
  obtain ⟨r, hs, hi⟩ := travel_both a b c d (by omega) (by omega) (by omega) (by omega)
  refine Ev.bind ta (Ev.bind tb (Ev.bind tc (Ev.bind td (Ev.bind hs (Ev.bind ta (Ev.bind tb (Ev.bind tc (Ev.bind td (Ev.bind hi ?_)))))))))
  refine Ev.bindc (a := true) (by unfold laws_eqFrac.f; simp) ?_
  refine Ev.ite_pos rfl ?_
  refine Ev.round (fun k => by simp only [laws_FnExactTravelOf.j0]; rfl) ?_
  refine Ev.ite_neg (by simp) ?_
  refine Ev.bind ta (Ev.bind (ev_eqIntS a a (by omega)) ?_)
  refine Ev.ite_pos (by simp) (Ev.bind tb (Ev.bind (ev_eqIntS b b (by omega)) ?_))
  refine Ev.ite_pos (by simp) (Ev.bind tc (Ev.bind (ev_eqIntS c c (by omega)) ?_))
  refine Ev.ite_pos (by simp) (Ev.bind td (Ev.bind (ev_eqIntS d d (by omega)) ?_))
  exact Ev.ite_pos (by simp) (Ev.now _)

end Go.Proofs.Ytgeapkhhfmjpaaa.Pure
