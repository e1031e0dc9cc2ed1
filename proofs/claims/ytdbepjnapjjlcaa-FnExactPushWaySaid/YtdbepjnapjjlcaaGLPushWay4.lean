-- Written by a program of this session (gprint.py), over the kit's print: not trusted: Lean checks it.
import Derived.Test.YtdbepjnapjjlcaaGLPushWay0
import Derived.Test.YtdbepjnapjjlcaaGLPushWay2
import Derived.Test.YtdbepjnapjjlcaaGLPushWay3
namespace Go.Proofs.Ytdbepjnapjjlcaa.GLPushWay
open Go.RowKit Go.Proofs.YtdbepjnapjjlcaaW.PrintWords Go.Proofs.YtdbepjnapjjlcaaW.PrintLast Go.Proofs.YtdbepjnapjjlcaaW.PrintMore Go.Proofs.YtdbepjnapjjlcaaW.PrintOwn
attribute [local go_sem] max2_int min2_int max_two min_two max_three min_three max_four min_four   -- for this text's walks alone
set_option linter.unusedVariables false
set_option linter.unusedSimpArgs false

/-! ### spec_PushWay: function 24 -/
def spec_PushWay.chk (k : Nat) (l0 l1 : List (List Int)) (l2 : List Int) : List Int → List Int → Option Bool
  | _, [] => some true
  | pre, h :: suf => if h < 0 then some false else if h ≥ (l0.length : Int) then some false else (spec_l1Has.f k pre h).bind fun t => if t = true then some false else if pre = [] then spec_PushWay.chk k l0 l1 l2 (pre ++ [h]) suf else (spec_l13Room.f l0 l1 (rd l2 ((pre.length : Int) - 1)) h).bind fun q => if q ≤ 0 then some false else spec_PushWay.chk k l0 l1 l2 (pre ++ [h]) suf
def spec_PushWay.do_ (k : Nat) (l0 l1 : List (List Int)) (l2 : List Int) : Option ((List (List Int)) × Int × Bool) := (spec_l13Own.f k l1).bind fun F => if 0 < F.length then ((spec_l13Push.g l0 F l2).bind fun p => some (p.2, p.1, true)) else none
def spec_PushWay.f (k : Nat) (l0 l1 : List (List Int)) (l2 : List Int) : Option ((List (List Int)) × Int × Bool) := (spec_GoodNet.f k l0).bind fun t => if t = true then ((spec_l13Flow.f k l0 l1).bind fun t2 => if t2 = true then (if l2.length < 2 then some ([], 0, false) else (if rd l2 0 = 0 then (if rd l2 ((l2.length : Int) - 1) = (l0.length : Int) - 1 then ((spec_PushWay.chk k l0 l1 l2 [] l2).bind fun b => if b = true then spec_PushWay.do_ k l0 l1 l2 else some ([], 0, false)) else some ([], 0, false)) else some ([], 0, false))) else some ([], 0, false)) else some ([], 0, false)
set_option maxHeartbeats 8000000 in
set_option maxRecDepth 100000 in
theorem spec_PushWay.calls (k : Nat) (A0 : Option Addr) (c0 : Nat) (l0 : List (List Int)) (A1 : Option Addr) (c1 : Nat) (l1 : List (List Int)) (A2 : Option Addr) (c2 : Nat) (l2 : List Int) (r1 : List (List Int)) (r2 : Int) (r3 : Bool) (w : World) (hr0 : Kd.C (Kd.slice 3 (Kd.int .i64)) w A0 l0.length l0) (hc0 : l0.length ≤ c0) (hr1 : Kd.C (Kd.slice 3 (Kd.int .i64)) w A1 l1.length l1) (hc1 : l1.length ≤ c1) (hr2 : Kd.C (Kd.int .i64) w A2 l2.length l2) (hc2 : l2.length ≤ c2) (h : spec_PushWay.f k l0 l1 l2 = some (r1, r2, r3)) :
    Calls Try.prog 24 #[.slice A0 l0.length c0, .slice A1 l1.length c1, .slice A2 l2.length c2] w fun e w' => ∃ v0_ : Value, e = .returned (.tuple #[v0_, .int .i64 r2, .bool r3]) ∧ Kd.S (Kd.slice 3 (Kd.int .i64)) 31 w' w.heap.size (fun _ => True) v0_ r1 ∧ Below w.heap.size w w' := by
  unfold spec_PushWay.f at h
  replace h := Option.bind_eq_some_iff.mp h
  obtain ⟨t, ht, h⟩ := h
  have hm2 := Kd.C_max hr2
  have hm0 := Kd.C_max hr0
  have HM2 := Aside0.mk (show l2.length ≤ 9223372036854775807 by first | omega | (unfold maxLen at hm2; omega))
  have HM0 := Aside0.mk (show l0.length ≤ 9223372036854775807 by first | omega | (unfold maxLen at hm0; omega))
  have HR0 := Aside0.mk hr0
  have HC0 := Aside0.mk hc0
  have HR1 := Aside0.mk hr1
  have HC1 := Aside0.mk hc1
  have HR2 := Aside0.mk hr2
  have HC2 := Aside0.mk hc2
  have HT := Aside0.mk ht
  have HB := Aside0.mk (Below.refl w.heap.size w)
  clear hr0 hc0 hr1 hc1 hr2 hc2 ht hm0 hm2
  have HGN := Aside0.mk (fun (W : World) hr => spec_GoodNet.calls k A0 c0 l0 t W hr HC0.out HT.out)
  cases t with
  | false =>
    simp only [Bool.false_eq_true, if_false, Option.some.injEq, Prod.mk.injEq] at h
    obtain ⟨rfl, rfl, rfl⟩ := h
    go_enter Try.func24, Try.ntmps24
    go_wp2_with (go_at_call 12; refine (HGN.out _ HR0.out).mono ?_; rintro e w' ⟨rfl, ⟨nd, rfl⟩⟩)
    go_ret3
    exact ⟨_, rfl, Kd.S_nil _ _ _ _ _, by repeat (first | exact HB.out | apply pw_below_drewN)⟩
  | true =>
    rw [if_pos rfl] at h
    replace h := Option.bind_eq_some_iff.mp h
    obtain ⟨t2, ht2, h⟩ := h
    have HT2 := Aside0.mk ht2
    clear ht2
    have HFL := Aside0.mk (fun (W : World) hr hr' => spec_l13Flow.calls k A0 c0 l0 A1 c1 l1 t2 W hr HC0.out hr' HC1.out HT2.out)
    cases t2 with
    | false =>
      simp only [Bool.false_eq_true, if_false, Option.some.injEq, Prod.mk.injEq] at h
      obtain ⟨rfl, rfl, rfl⟩ := h
      go_enter Try.func24, Try.ntmps24
      go_wp2_with (first | (go_at_call 12; refine (HGN.out _ HR0.out).mono ?_; rintro e w' ⟨rfl, ⟨nd, rfl⟩⟩) | (go_at_call 41; refine (HFL.out _ (Kd.C_drewN HR0.out _) (Kd.C_drewN HR1.out _)).mono ?_; rintro e w' ⟨rfl, ⟨nd2, rfl⟩⟩))
      go_ret3
      exact ⟨_, rfl, Kd.S_nil _ _ _ _ _, by repeat (first | exact HB.out | apply pw_below_drewN)⟩
    | true =>
      rw [if_pos rfl] at h
      by_cases g1 : l2.length < 2
      · rw [if_pos g1] at h
        simp only [Option.some.injEq, Prod.mk.injEq] at h
        obtain ⟨rfl, rfl, rfl⟩ := h
        have s1 : decide ((l2.length : Int) < 2) = true := decide_eq_true (by omega)
        have s2 : ((l2.length : Int) < 2) = True := eq_true (by omega)
        have s3 : decide (l2.length < 2) = true := decide_eq_true g1
        have s4 : (l2.length < 2) = True := eq_true g1
        clear g1
        go_enter Try.func24, Try.ntmps24
        go_wp2_with (first | (go_at_call 12; refine (HGN.out _ HR0.out).mono ?_; rintro e w' ⟨rfl, ⟨nd, rfl⟩⟩) | (go_at_call 41; refine (HFL.out _ (Kd.C_drewN HR0.out _) (Kd.C_drewN HR1.out _)).mono ?_; rintro e w' ⟨rfl, ⟨nd2, rfl⟩⟩))
        go_ret3
        exact ⟨_, rfl, Kd.S_nil _ _ _ _ _, by repeat (first | exact HB.out | apply pw_below_drewN)⟩
      · rw [if_neg g1] at h
        have G1 := Aside0.mk (show 2 ≤ l2.length by omega)
        have s1 : decide ((l2.length : Int) < 2) = false := decide_eq_false (by omega)
        have s2 : ((l2.length : Int) < 2) = False := eq_false (by omega)
        have s3 : decide (l2.length < 2) = false := decide_eq_false g1
        have s4 : (l2.length < 2) = False := eq_false g1
        have s5 : (0 < l2.length) = True := eq_true (by omega)
        have s6 : decide (0 < l2.length) = true := decide_eq_true (by omega)
        have s7 : decide ((0 : Int) < (l2.length : Int)) = true := decide_eq_true (by omega)
        have s8 : decide (0 ≤ (l2.length : Int) - 1) = true := decide_eq_true (by omega)
        have s9 : decide ((l2.length : Int) - 1 < (l2.length : Int)) = true := decide_eq_true (by omega)
        have s10 : (0 ≤ (l2.length : Int) - 1) = True := eq_true (by omega)
        have s11 : decide (1 ≤ l2.length) = true := decide_eq_true (by omega)
        have s12 : (1 ≤ l2.length) = True := eq_true (by omega)
        have s13 : decide ((1 : Int) ≤ (l2.length : Int)) = true := decide_eq_true (by omega)
        have s14 : ((1 : Int) ≤ (l2.length : Int)) = True := eq_true (by omega)
        clear g1
        obtain ⟨ad, ea, hx0⟩ := Kd.at_int HR2.out 0 (by omega) (by have := G1.out; omega)
        cases ea
        obtain ⟨ad', ea', hx1⟩ := Kd.at_int HR2.out ((l2.length : Int) - 1) (by have := G1.out; omega) (by omega)
        obtain rfl : ad = ad' := by injection ea'
        clear ea'
        have hxz : w.cell? ad = some (.int .i64 (rd l2 0)) := by
          have e : ad.add (0 : Int).toNat = ad := by simp [Addr.add]
          rw [e] at hx0
          exact hx0
        rw [Int.toNat_zero] at hx0
        rw [show ((l2.length : Int) - 1).toNat = l2.length - 1 by omega] at hx1
        have e1 : IntKind.i64.wrap ((l2.length : Int) - 1) = (l2.length : Int) - 1 := IntWalk.i64_in _ (by have := G1.out; have := HM2.out; omega)
        have e2 : IntKind.i64.wrap ((l0.length : Int) - 1) = (l0.length : Int) - 1 := IntWalk.i64_in _ (by have := HM0.out; omega)
        by_cases g2 : rd l2 0 = 0
        case neg =>
          rw [if_neg g2] at h
          simp only [Option.some.injEq, Prod.mk.injEq] at h
          obtain ⟨rfl, rfl, rfl⟩ := h
          have z1 : (rd l2 0 == 0) = false := by rw [beq_eq_false_iff_ne]; exact g2
          have z2 : (rd l2 0 != 0) = true := by rw [bne, z1]; rfl
          have z3 : decide (rd l2 0 = 0) = false := decide_eq_false g2
          clear g2
          go_enter Try.func24, Try.ntmps24
          go_wp2_with (first | (go_at_call 12; refine (HGN.out _ HR0.out).mono ?_; rintro e w' ⟨rfl, ⟨nd, rfl⟩⟩) | (go_at_call 41; refine (HFL.out _ (Kd.C_drewN HR0.out _) (Kd.C_drewN HR1.out _)).mono ?_; rintro e w' ⟨rfl, ⟨nd2, rfl⟩⟩))
          go_ret3
          exact ⟨_, rfl, Kd.S_nil _ _ _ _ _, by repeat (first | exact HB.out | apply pw_below_drewN)⟩
        case pos =>
        rw [if_pos g2] at h
        have z1 : (rd l2 0 == 0) = true := by rw [beq_iff_eq]; exact g2
        have z2 : (rd l2 0 != 0) = false := by rw [bne, z1]; rfl
        have z3 : decide (rd l2 0 = 0) = true := decide_eq_true g2
        clear g2
        by_cases g3 : rd l2 ((l2.length : Int) - 1) = (l0.length : Int) - 1
        case neg =>
          rw [if_neg g3] at h
          simp only [Option.some.injEq, Prod.mk.injEq] at h
          obtain ⟨rfl, rfl, rfl⟩ := h
          have z4 : (rd l2 ((l2.length : Int) - 1) == (l0.length : Int) - 1) = false := by rw [beq_eq_false_iff_ne]; exact g3
          have z5 : (rd l2 ((l2.length : Int) - 1) != (l0.length : Int) - 1) = true := by rw [bne, z4]; rfl
          have z6 : decide (rd l2 ((l2.length : Int) - 1) = (l0.length : Int) - 1) = false := decide_eq_false g3
          clear g3
          go_enter Try.func24, Try.ntmps24
          go_wp2_with (first | (go_at_call 12; refine (HGN.out _ HR0.out).mono ?_; rintro e w' ⟨rfl, ⟨nd, rfl⟩⟩) | (go_at_call 41; refine (HFL.out _ (Kd.C_drewN HR0.out _) (Kd.C_drewN HR1.out _)).mono ?_; rintro e w' ⟨rfl, ⟨nd2, rfl⟩⟩))
          go_ret3
          exact ⟨_, rfl, Kd.S_nil _ _ _ _ _, by repeat (first | exact HB.out | apply pw_below_drewN)⟩
        case pos =>
        rw [if_pos g3] at h
        have z4 : (rd l2 ((l2.length : Int) - 1) == (l0.length : Int) - 1) = true := by rw [beq_iff_eq]; exact g3
        have z5 : (rd l2 ((l2.length : Int) - 1) != (l0.length : Int) - 1) = false := by rw [bne, z4]; rfl
        have z6 : decide (rd l2 ((l2.length : Int) - 1) = (l0.length : Int) - 1) = true := decide_eq_true g3
        clear g3
        replace h := Option.bind_eq_some_iff.mp h
        obtain ⟨b, hb, h⟩ := h
        have HCK := Aside0.mk hb
        have H := Aside0.mk h
        clear hb h
        go_enter Try.func24, Try.ntmps24
        go_wp2_with (first | (go_at_call 12; refine (HGN.out _ HR0.out).mono ?_; rintro e w' ⟨rfl, ⟨nd, rfl⟩⟩) | (go_at_call 41; refine (HFL.out _ (Kd.C_drewN HR0.out _) (Kd.C_drewN HR1.out _)).mono ?_; rintro e w' ⟨rfl, ⟨nd2, rfl⟩⟩))
        clear s1 s2 s3 s4 s5 s6 s7 s8 s9 s10 s11 s12 s13 s14 e1 e2 z1 z2 z3 z4 z5 z6 hx0 hx1 hxz
        go_loopg [47] (l2.length + 1) (fun gk v47 w' => ∃ (i : Nat) (pre suf : List Int), v47 = .int .i64 (i : Int) ∧ Aside0 (l2 = pre ++ suf ∧ suf.length < gk ∧ i = pre.length) ∧ Aside0 (spec_PushWay.chk k l0 l1 l2 pre suf = some b) ∧ Aside0 (Below w.heap.size w w'))
        case atStart => exact ⟨0, [], l2, rfl, ⟨rfl, Nat.lt_succ_self _, rfl⟩, HCK, ⟨by repeat (first | exact HB.out | apply pw_below_drewN)⟩⟩
        case round =>
          clear HCK HB HGN HFL HT HT2
          obtain ⟨i, pre, suf, rfl, HE, HCK, HB⟩ := hrel
          cases suf with
          | nil =>
            have hck := HCK.out
            rw [spec_PushWay.chk] at hck
            obtain rfl := Option.some.inj hck
            have hdo := H.out
            rw [if_pos rfl] at hdo
            unfold spec_PushWay.do_ at hdo
            replace hdo := Option.bind_eq_some_iff.mp hdo
            obtain ⟨F, hF, hdo⟩ := hdo
            split at hdo
            case isFalse => cases hdo
            case isTrue hne =>
            replace hdo := Option.bind_eq_some_iff.mp hdo
            obtain ⟨⟨mu, F'⟩, hg, hdo⟩ := hdo
            simp only [Option.some.injEq, Prod.mk.injEq] at hdo
            obtain ⟨rfl, rfl, rfl⟩ := hdo
            have HF := Aside0.mk hF
            have HNE := Aside0.mk hne
            have HG := Aside0.mk hg
            have hl : l2.length = i := by rw [HE.out.2.2, HE.out.1]; simp
            have d1 : decide ((i : Int) < (l2.length : Int)) = false := decide_eq_false (by omega)
            have d2 : ((i : Int) < (l2.length : Int)) = False := eq_false (by omega)
            have d3 : decide (i < l2.length) = false := decide_eq_false (by omega)
            have d4 : (i < l2.length) = False := eq_false (by omega)
            clear hck HCK H hF hne hg hl
            go_wp2_with fail
            go_at_call 48
            refine (spec_l13Own.calls k A1 c1 l1 F wr (Kd.C_below HR1.out HB.out) HC1.out HF.out).mono ?_
            rintro e w1 ⟨v1, rfl, hS, hb1⟩
            have hS' := Kd.S_mono (Kd.S_bound hS) (ok' := fun k_ => wr.heap.size ≤ k_) (fun k_ hk_ => hk_.2.1)
            obtain ⟨Av, cv, rfl⟩ := Kd.S_slice hS'
            have HS1 := Aside0.mk hS'
            have HB1 := Aside0.mk hb1
            clear hS hS' hb1 d1 d2 d3 d4
            go_wp2_with fail
            go_at_call 49
            refine (spec_l13Push.pushes A0 c0 l0 (fun k_ => wr.heap.size ≤ k_) (.slice Av F.length cv) F (some ad) c2 l2 mu F' wr w1 HB1.out (Kd.C_below HR0.out HB.out) HC0.out HS1.out HNE.out (Kd.C_kept_came (Kd.heap_int .i64) (Kd.C_below HR2.out HB.out) HB1.out (fun _ h_ => h_)) HG.out).mono ?_
            rintro e w2 ⟨rfl, hS2, hB2, hK2⟩
            have HS2 := Aside0.mk hS2
            have HB2 := Aside0.mk hB2
            clear hS2 hB2 hK2
            go_wp2_with fail
            go_ret3
            exact ⟨_, rfl, Kd.S_mono (Kd.S_lower HS2.out HB.out.size) (fun _ _ => trivial), HB.out.trans (HB2.out.mono HB.out.size)⟩
          | cons x suf =>
            have hck := HCK.out
            rw [spec_PushWay.chk] at hck
            have hl : l2.length = i + suf.length + 1 := by rw [HE.out.2.2, HE.out.1]; simp; omega
            have hix : i = pre.length := HE.out.2.2
            have hrd : rd l2 (i : Int) = x := by
              show l2.getD (i : Int).toNat 0 = x
              rw [HE.out.1, hix]
              simp
            obtain ⟨ad2, ea2, hx2⟩ := Kd.at_int HR2.out (i : Int) (by omega) (by omega)
            obtain rfl : ad = ad2 := by injection ea2
            clear ea2
            rw [hrd, Int.toNat_natCast] at hx2
            replace hx2 := (HB.out.cell (World.block_lt_of_cell? w _ hx2)).trans hx2
            have HE' := Aside0.mk (show l2 = (pre ++ [x]) ++ suf ∧ suf.length + 1 < gk ∧ i + 1 = (pre ++ [x]).length by refine ⟨by rw [HE.out.1]; simp, by have := HE.out.2.1; simpa using this, by simp [hix]⟩)
            have HLEN := Aside0.mk hl
            have hct := Kd.C_take (m := i) (Kd.C_below HR2.out HB.out) (by omega)
            rw [show l2.take i = pre by rw [HE.out.1, hix]; simp] at hct
            have HCT := Aside0.mk hct
            have HIP := Aside0.mk hix
            have d1 : decide ((i : Int) < (l2.length : Int)) = true := decide_eq_true (by omega)
            have d2 : ((i : Int) < (l2.length : Int)) = True := eq_true (by omega)
            have d3 : decide (i < l2.length) = true := decide_eq_true (by omega)
            have d4 : (i < l2.length) = True := eq_true (by omega)
            have d5 : decide (0 ≤ (i : Int)) = true := decide_eq_true (by omega)
            have d6 : (0 ≤ (i : Int)) = True := eq_true (by omega)
            have k1 : decide ((i : Int) ≤ (c2 : Int)) = true := decide_eq_true (by have := HC2.out; omega)
            have k2 : ((i : Int) ≤ (c2 : Int)) = True := eq_true (by have := HC2.out; omega)
            have k3 : i ≤ c2 := by have := HC2.out; omega
            have hup : wrap64 ((i : Int) + 1) = ((i + 1 : Nat) : Int) := by have := HM2.out; unfold wrap64; omega
            have HUP := Aside0.mk hup
            clear hup hl hrd hct hix HE HCK
            by_cases n1 : x < 0
            · rw [if_pos n1] at hck
              obtain rfl := Option.some.inj hck
              have hH := H.out
              simp only [Bool.false_eq_true, if_false, Option.some.injEq, Prod.mk.injEq] at hH
              obtain ⟨rfl, rfl, rfl⟩ := hH
              have m1 : decide (x < 0) = true := decide_eq_true n1
              clear n1 hck H
              go_wp2
              go_ret3
              exact ⟨_, rfl, Kd.S_nil _ _ _ _ _, by repeat (first | exact HB.out | apply pw_below_drewN)⟩
            rw [if_neg n1] at hck
            have m1 : decide (x < 0) = false := decide_eq_false n1
            by_cases n2 : x ≥ (l0.length : Int)
            · rw [if_pos n2] at hck
              obtain rfl := Option.some.inj hck
              have hH := H.out
              simp only [Bool.false_eq_true, if_false, Option.some.injEq, Prod.mk.injEq] at hH
              obtain ⟨rfl, rfl, rfl⟩ := hH
              have m2 : decide (x ≥ (l0.length : Int)) = true := decide_eq_true n2
              have m3 : decide ((l0.length : Int) ≤ x) = true := decide_eq_true n2
              clear n1 n2 hck H
              go_wp2
              go_ret3
              exact ⟨_, rfl, Kd.S_nil _ _ _ _ _, by repeat (first | exact HB.out | apply pw_below_drewN)⟩
            rw [if_neg n2] at hck
            have m2 : decide (x ≥ (l0.length : Int)) = false := decide_eq_false n2
            have m3 : decide ((l0.length : Int) ≤ x) = false := decide_eq_false n2
            clear n1 n2
            replace hck := Option.bind_eq_some_iff.mp hck
            obtain ⟨t, ht, hck⟩ := hck
            have HHS := Aside0.mk (fun (W : World) (hC : Kd.C (Kd.int .i64) W (some ad) pre.length pre) => (show Calls Try.prog 44 #[.slice (some ad) i c2, .int .i64 x] W (fun e w' => e = .returned (.bool t) ∧ Drawn0 W w') from by rw [HIP.out]; exact spec_l1Has.calls k (some ad) c2 pre x t W hC (by have := HIP.out; omega) ht))
            clear ht
            cases t with
            | true =>
              rw [if_pos rfl] at hck
              obtain rfl := Option.some.inj hck
              have hH := H.out
              simp only [Bool.false_eq_true, if_false, Option.some.injEq, Prod.mk.injEq] at hH
              obtain ⟨rfl, rfl, rfl⟩ := hH
              clear hck H
              go_wp2_with (go_at_call 44; refine (HHS.out _ HCT.out).mono ?_; rintro e w' ⟨rfl, ⟨nd3, rfl⟩⟩)
              go_ret3
              exact ⟨_, rfl, Kd.S_nil _ _ _ _ _, by repeat (first | exact HB.out | apply pw_below_drewN)⟩
            | false =>
              rw [if_neg (by decide)] at hck
              by_cases n3 : pre = []
              · rw [if_pos n3] at hck
                have HCK := Aside0.mk hck
                have hi0 : i = 0 := by rw [HIP.out, n3]; rfl
                have u1 : decide ((i : Int) > 0) = false := decide_eq_false (by omega)
                have u2 : decide (0 < (i : Int)) = false := decide_eq_false (by omega)
                have u3 : decide (0 < i) = false := decide_eq_false (by omega)
                have u4 : (0 < i) = False := eq_false (by omega)
                clear hck n3 hi0
                go_wp2_with (go_at_call 44; refine (HHS.out _ HCT.out).mono ?_; rintro e w' ⟨rfl, ⟨nd3, rfl⟩⟩)
                go_roundg (suf.length + 1)
                case measure => have := HE'.out.2.1; omega
                case rel => exact ⟨i + 1, pre ++ [x], suf, by first | rfl | (rw [← HUP.out]), ⟨HE'.out.1, Nat.lt_succ_self _, HE'.out.2.2⟩, HCK, ⟨by repeat (first | exact HB.out | apply pw_below_drewN)⟩⟩
              · rw [if_neg n3] at hck
                have hi0 : 1 ≤ i := by rw [HIP.out]; exact List.length_pos_iff.2 n3
                have HI0 := Aside0.mk hi0
                have u1 : decide ((i : Int) > 0) = true := decide_eq_true (by omega)
                have u2 : decide (0 < (i : Int)) = true := decide_eq_true (by omega)
                have u3 : decide (0 < i) = true := decide_eq_true (by omega)
                have u4 : (0 < i) = True := eq_true (by omega)
                have u5 : decide (0 ≤ (i : Int) - 1) = true := decide_eq_true (by omega)
                have u6 : (0 ≤ (i : Int) - 1) = True := eq_true (by omega)
                have u7 : decide ((i : Int) - 1 < (l2.length : Int)) = true := decide_eq_true (by have := HLEN.out; omega)
                have u8 : ((i : Int) - 1 < (l2.length : Int)) = True := eq_true (by have := HLEN.out; omega)
                have u9 : decide (1 ≤ (i : Int)) = true := decide_eq_true (by omega)
                have u10 : (1 ≤ (i : Int)) = True := eq_true (by omega)
                have u11 : decide (1 ≤ i) = true := decide_eq_true (by omega)
                have e1 : IntKind.i64.wrap ((i : Int) - 1) = (i : Int) - 1 := IntWalk.i64_in _ (by have := HLEN.out; have := HM2.out; omega)
                obtain ⟨ad3, ea3, hx3⟩ := Kd.at_int HR2.out ((i : Int) - 1) (by omega) (by have := HLEN.out; omega)
                obtain rfl : ad = ad3 := by injection ea3
                clear ea3
                rw [show ((i : Int) - 1).toNat = i - 1 by omega] at hx3
                replace hx3 := (HB.out.cell (World.block_lt_of_cell? w _ hx3)).trans hx3
                rw [show ((pre.length : Nat) : Int) = (i : Int) by rw [HIP.out]] at hck
                replace hck := Option.bind_eq_some_iff.mp hck
                obtain ⟨q, hq, hck⟩ := hck
                have HRM := Aside0.mk (fun (W : World) hr hr' => spec_l13Room.calls A0 c0 l0 A1 c1 l1 (rd l2 ((i : Int) - 1)) x q W hr HC0.out hr' HC1.out hq)
                clear hq n3 hi0
                by_cases n4 : q ≤ 0
                · rw [if_pos n4] at hck
                  obtain rfl := Option.some.inj hck
                  have hH := H.out
                  simp only [Bool.false_eq_true, if_false, Option.some.injEq, Prod.mk.injEq] at hH
                  obtain ⟨rfl, rfl, rfl⟩ := hH
                  have m4 : decide (q ≤ 0) = true := decide_eq_true n4
                  clear n4 hck H
                  go_wp2_with (first | (go_at_call 44; refine (HHS.out _ HCT.out).mono ?_; rintro e w' ⟨rfl, ⟨nd3, rfl⟩⟩) | (go_at_call 47; refine (HRM.out _ (Kd.C_drewN (Kd.C_below HR0.out HB.out) _) (Kd.C_drewN (Kd.C_below HR1.out HB.out) _)).mono ?_; rintro e w' ⟨rfl, ⟨nd4, rfl⟩⟩))
                  go_ret3
                  exact ⟨_, rfl, Kd.S_nil _ _ _ _ _, by repeat (first | exact HB.out | apply pw_below_drewN)⟩
                · rw [if_neg n4] at hck
                  have HCK := Aside0.mk hck
                  have m4 : decide (q ≤ 0) = false := decide_eq_false n4
                  clear n4 hck
                  go_wp2_with (first | (go_at_call 44; refine (HHS.out _ HCT.out).mono ?_; rintro e w' ⟨rfl, ⟨nd3, rfl⟩⟩) | (go_at_call 47; refine (HRM.out _ (Kd.C_drewN (Kd.C_below HR0.out HB.out) _) (Kd.C_drewN (Kd.C_below HR1.out HB.out) _)).mono ?_; rintro e w' ⟨rfl, ⟨nd4, rfl⟩⟩))
                  go_roundg (suf.length + 1)
                  case measure => have := HE'.out.2.1; omega
                  case rel => exact ⟨i + 1, pre ++ [x], suf, by first | rfl | (rw [← HUP.out]), ⟨HE'.out.1, Nat.lt_succ_self _, HE'.out.2.2⟩, HCK, ⟨by repeat (first | exact HB.out | apply pw_below_drewN)⟩⟩

/-! ### impl_within: function 61 -/
def impl_within.f (a0 : Int) (a1 : Int) (a2 : Int) : Option (Bool) := if a0 ≥ a1 then (some (decide (a0 ≤ a2))) else (some false)
set_option maxHeartbeats 8000000 in
set_option maxRecDepth 100000 in
theorem impl_within.calls (a0 : Int) (a1 : Int) (a2 : Int) (r : Bool) (w : World) (h : impl_within.f a0 a1 a2 = some r) :
    Calls Try.prog 61 #[.int .i64 a0, .int .i64 a1, .int .i64 a2] w fun e w' => e = .returned (.bool r) ∧ Drawn0 w w' := by
  have H : (if a0 ≥ a1 then (some (decide (a0 ≤ a2))) else (some false)) = some r := h
  clear h
  by_cases c4 : a0 ≥ a1
  · rw [if_pos c4] at H
    have c4b0 : decide (a1 ≤ a0) = true := decide_eq_true c4
    clear c4
    obtain rfl := Option.some.inj H
    go_enter Try.func61, Try.ntmps61
    go_wp2
    go_ret
    exact ⟨by first | rfl | (simp; done) | (simp [*]; done), by repeat (first | exact Drawn0.refl _ | apply Drawn0.step)⟩
  · rw [if_neg c4] at H
    have c4b0 : decide (a1 ≤ a0) = false := decide_eq_false c4
    clear c4
    obtain rfl := Option.some.inj H
    go_enter Try.func61, Try.ntmps61
    go_wp2
    go_ret
    exact ⟨by first | rfl | (simp; done) | (simp [*]; done), by repeat (first | exact Drawn0.refl _ | apply Drawn0.step)⟩

/-! ### slices_IndexFunc_int_int_71: function 71 -/
set_option maxHeartbeats 4000000 in
theorem slices_IndexFunc_int_int_71.any (A0 : Option Addr) (c0 : Nat) (l0 : List (List Int)) (p : (List Int) → Bool) (g : Nat) (lb : Array Value) (eg : ∀ args w, (callFunc g args).run Try.prog w = .ok (.enter g args) w) (w : World) (hr0 : Kd.C (Kd.slice 3 (Kd.int .i64)) w A0 l0.length l0)
    (hp : ∀ x, x ∈ l0 → ∀ (A_ : Option Addr) (c_ : Nat), x.length ≤ c_ → Kd.C (Kd.int .i64) w A_ x.length x → PredB Try.prog g lb #[.slice A_ x.length c_] (p x) w) :
    Calls Try.prog 71 #[.slice A0 l0.length c0, .func (.func g) #[] lb] w fun e w' => e = .returned (.int .i64 (idxP p l0)) ∧ Below w.heap.size w w' := by
  have HR0 := Aside0.mk hr0
  have HP := Aside0.mk hp
  clear hr0 hp
  go_enter Try.func71, Try.ntmps71
  go_wp2
  go_loopg [5, 8] l0.length (fun gk _ v8 w' => ∃ x8 : Int, v8 = .int .i64 x8 ∧ Aside0 (0 ≤ x8 ∧ x8 ≤ l0.length ∧ (l0.length : Int) - x8 ≤ gk) ∧ Aside0 (Below w.heap.size w w') ∧ Aside0 (∀ j, j < x8.toNat → p (l0.getD j []) = false))
  case atStart => exact ⟨0, rfl, ⟨by omega, by omega, by omega⟩, ⟨Below.refl _ _⟩, ⟨fun j hj => absurd hj (Nat.not_lt_zero _)⟩⟩
  case round =>
    obtain ⟨x8, rfl, HI, HB, HJ⟩ := hrel
    by_cases c : x8 < (l0.length : Int)
    · have cb : decide (x8 < (l0.length : Int)) = true := decide_eq_true c
      have CC := Aside0.mk c
      obtain ⟨ad, A_, c_, e, hx_0, hl_, hg_⟩ := at_L1 HR0.out x8 HI.out.1 c
      cases e
      replace hx_0 := (HB.out.cell (World.block_lt_of_cell? w _ hx_0)).trans hx_0
      have p0 := eq_true HI.out.1
      have q0 := eq_true c
      have p1 : decide (0 ≤ x8) = true := decide_eq_true HI.out.1
      have hcall := HP.out (rd_L1 l0 x8) (getD_mem [] (by have := HI.out; omega)) A_ c_ hl_ hg_ wr HB.out
      have HG_ := Aside0.mk hg_; clear hg_
      clear c
      cases hq : p (rd_L1 l0 x8) with
      | true =>
        have HQ := Aside0.mk hq
        rw [hq] at hcall
        clear hq
        go_wp2_with (go_at_fn g; refine hcall.mono ?_; rintro e w' ⟨rfl, hb'⟩)
        go_ret
        refine ⟨?_, hb'⟩
        have h1 := HI.out
        have h2 := CC.out
        rw [idxP_hit (k := x8.toNat) [] (by omega) HQ.out HJ.out, Int.toNat_of_nonneg h1.1]
        rfl
      | false =>
        have HQ := Aside0.mk hq
        rw [hq] at hcall
        clear hq
        go_wp2_with (go_at_fn g; refine hcall.mono ?_; rintro e w' ⟨rfl, hb'⟩)
        go_roundg (l0.length - (x8.toNat + 1))
        case measure => have h1 := HI.out; have h2 := CC.out; omega
        case rel =>
          have h1 := HI.out
          have h2 := CC.out
          refine ⟨x8 + 1, ?_, ⟨by omega, by omega, by omega⟩, ⟨hb'⟩, ⟨fun j hj => ?_⟩⟩
          · first | rfl | rw [wrap_up h1.1 h2 (Kd.C_max HR0.out)]
          · by_cases e : j = x8.toNat
            · subst e; exact HQ.out
            · exact HJ.out j (by omega)
    · have cb : decide (x8 < (l0.length : Int)) = false := decide_eq_false c
      have CC := Aside0.mk c
      clear c
      go_wp2
      go_ret
      refine ⟨?_, HB.out⟩
      have h1 := HI.out
      have h2 := CC.out
      rw [idxP_miss [] (fun j hj => HJ.out j (by omega))]
      rfl

/-! ### slices_ContainsFunc_int_int_62: function 62 -/
theorem slices_ContainsFunc_int_int_62.any (A0 : Option Addr) (c0 : Nat) (l0 : List (List Int)) (p : (List Int) → Bool) (g : Nat) (lb : Array Value) (eg : ∀ args w, (callFunc g args).run Try.prog w = .ok (.enter g args) w) (w : World) (hr0 : Kd.C (Kd.slice 3 (Kd.int .i64)) w A0 l0.length l0)
    (hp : ∀ x, x ∈ l0 → ∀ (A_ : Option Addr) (c_ : Nat), x.length ≤ c_ → Kd.C (Kd.int .i64) w A_ x.length x → PredB Try.prog g lb #[.slice A_ x.length c_] (p x) w) :
    Calls Try.prog 62 #[.slice A0 l0.length c0, .func (.func g) #[] lb] w fun e w' => e = .returned (.bool (l0.any p)) ∧ Below w.heap.size w w' := by
  have HI := Aside0.mk (slices_IndexFunc_int_int_71.any A0 c0 l0 p g lb eg w hr0 hp)
  rw [← idxP_any]
  generalize idxP p l0 = r at HI ⊢
  clear hr0 hp
  go_enter Try.func62, Try.ntmps62
  go_wp2_with (go_at_call 71; refine HI.out.mono ?_; rintro e w' ⟨rfl, hb'⟩)
  go_ret
  exact ⟨by first | rfl | simp, hb'⟩

/-! ### slices_IndexFunc_int_int_72: function 72 -/
set_option maxHeartbeats 4000000 in
theorem slices_IndexFunc_int_int_72.any (A0 : Option Addr) (c0 : Nat) (l0 : List Int) (p : Int → Bool) (g : Nat) (lb : Array Value) (eg : ∀ args w, (callFunc g args).run Try.prog w = .ok (.enter g args) w) (w : World) (hr0 : Kd.C (Kd.int .i64) w A0 l0.length l0)
    (hp : ∀ x, x ∈ l0 → PredB Try.prog g lb #[.int .i64 x] (p x) w) :
    Calls Try.prog 72 #[.slice A0 l0.length c0, .func (.func g) #[] lb] w fun e w' => e = .returned (.int .i64 (idxP p l0)) ∧ Below w.heap.size w w' := by
  have HR0 := Aside0.mk hr0
  have HP := Aside0.mk hp
  clear hr0 hp
  go_enter Try.func72, Try.ntmps72
  go_wp2
  go_loopg [5, 8] l0.length (fun gk _ v8 w' => ∃ x8 : Int, v8 = .int .i64 x8 ∧ Aside0 (0 ≤ x8 ∧ x8 ≤ l0.length ∧ (l0.length : Int) - x8 ≤ gk) ∧ Aside0 (Below w.heap.size w w') ∧ Aside0 (∀ j, j < x8.toNat → p (l0.getD j 0) = false))
  case atStart => exact ⟨0, rfl, ⟨by omega, by omega, by omega⟩, ⟨Below.refl _ _⟩, ⟨fun j hj => absurd hj (Nat.not_lt_zero _)⟩⟩
  case round =>
    obtain ⟨x8, rfl, HI, HB, HJ⟩ := hrel
    by_cases c : x8 < (l0.length : Int)
    · have cb : decide (x8 < (l0.length : Int)) = true := decide_eq_true c
      have CC := Aside0.mk c
      obtain ⟨ad, e, hx_0⟩ := Kd.at_int HR0.out x8 HI.out.1 c
      cases e
      replace hx_0 := (HB.out.cell (World.block_lt_of_cell? w _ hx_0)).trans hx_0
      have p0 := eq_true HI.out.1
      have q0 := eq_true c
      have p1 : decide (0 ≤ x8) = true := decide_eq_true HI.out.1
      have hcall := HP.out (rd l0 x8) (getD_mem 0 (by have := HI.out; omega)) wr HB.out
      skip
      clear c
      cases hq : p (rd l0 x8) with
      | true =>
        have HQ := Aside0.mk hq
        rw [hq] at hcall
        clear hq
        go_wp2_with (go_at_fn g; refine hcall.mono ?_; rintro e w' ⟨rfl, hb'⟩)
        go_ret
        refine ⟨?_, hb'⟩
        have h1 := HI.out
        have h2 := CC.out
        rw [idxP_hit (k := x8.toNat) 0 (by omega) HQ.out HJ.out, Int.toNat_of_nonneg h1.1]
        rfl
      | false =>
        have HQ := Aside0.mk hq
        rw [hq] at hcall
        clear hq
        go_wp2_with (go_at_fn g; refine hcall.mono ?_; rintro e w' ⟨rfl, hb'⟩)
        go_roundg (l0.length - (x8.toNat + 1))
        case measure => have h1 := HI.out; have h2 := CC.out; omega
        case rel =>
          have h1 := HI.out
          have h2 := CC.out
          refine ⟨x8 + 1, ?_, ⟨by omega, by omega, by omega⟩, ⟨hb'⟩, ⟨fun j hj => ?_⟩⟩
          · first | rfl | rw [wrap_up h1.1 h2 (Kd.C_max HR0.out)]
          · by_cases e : j = x8.toNat
            · subst e; exact HQ.out
            · exact HJ.out j (by omega)
    · have cb : decide (x8 < (l0.length : Int)) = false := decide_eq_false c
      have CC := Aside0.mk c
      clear c
      go_wp2
      go_ret
      refine ⟨?_, HB.out⟩
      have h1 := HI.out
      have h2 := CC.out
      rw [idxP_miss 0 (fun j hj => HJ.out j (by omega))]
      rfl

/-! ### slices_ContainsFunc_int_int_66: function 66 -/
theorem slices_ContainsFunc_int_int_66.any (A0 : Option Addr) (c0 : Nat) (l0 : List Int) (p : Int → Bool) (g : Nat) (lb : Array Value) (eg : ∀ args w, (callFunc g args).run Try.prog w = .ok (.enter g args) w) (w : World) (hr0 : Kd.C (Kd.int .i64) w A0 l0.length l0)
    (hp : ∀ x, x ∈ l0 → PredB Try.prog g lb #[.int .i64 x] (p x) w) :
    Calls Try.prog 66 #[.slice A0 l0.length c0, .func (.func g) #[] lb] w fun e w' => e = .returned (.bool (l0.any p)) ∧ Below w.heap.size w w' := by
  have HI := Aside0.mk (slices_IndexFunc_int_int_72.any A0 c0 l0 p g lb eg w hr0 hp)
  rw [← idxP_any]
  generalize idxP p l0 = r at HI ⊢
  clear hr0 hp
  go_enter Try.func66, Try.ntmps66
  go_wp2_with (go_at_call 72; refine HI.out.mono ?_; rintro e w' ⟨rfl, hb'⟩)
  go_ret
  exact ⟨by first | rfl | simp, hb'⟩

/-! ### impl_allWithin: function 50 -/
def impl_allWithin.f (l0 : List Int) (a1 : Int) (a2 : Int) : Option (Bool) := some (l0.all fun n => decide (a1 ≤ n) && decide (n ≤ a2))
theorem impl_allWithin.clo (lo hi : Int) (b1 b2 : Nat) (w : World) (h1 : b1 < w.heap.size) (h2 : b2 < w.heap.size) (k1 : w.cell? ⟨b1, 0, none⟩ = some (.int .i64 lo)) (k2 : w.cell? ⟨b2, 0, none⟩ = some (.int .i64 hi)) (x : Int) :
    PredB Try.prog 67 #[.pointer (some ⟨b1, 0, none⟩), .pointer (some ⟨b2, 0, none⟩)] #[.int .i64 x] (!(decide (lo ≤ x) && decide (x ≤ hi))) w := fun W hb => by
  have c1 : W.cell? ⟨b1, 0, none⟩ = some (.int .i64 lo) := (hb.cell (p := ⟨b1, 0, none⟩) h1).trans k1
  have c2 : W.cell? ⟨b2, 0, none⟩ = some (.int .i64 hi) := (hb.cell (p := ⟨b2, 0, none⟩) h2).trans k2
  have HB := Aside0.mk hb
  clear k1 k2 hb
  show Calls Try.prog 67 #[.int .i64 x, .pointer (some ⟨b1, 0, none⟩), .pointer (some ⟨b2, 0, none⟩)] W _
  by_cases e1 : lo ≤ x
  all_goals by_cases e2 : x ≤ hi
  all_goals (go_enter Try.func67, Try.ntmps67; go_wp2; go_ret; exact ⟨by simp [e1, e2], HB.out⟩)
set_option maxHeartbeats 4000000 in
theorem impl_allWithin.calls (A0 : Option Addr) (c0 : Nat) (l0 : List Int) (a1 : Int) (a2 : Int) (r : Bool) (w : World) (hr0 : Kd.C (Kd.int .i64) w A0 l0.length l0) (hc0 : l0.length ≤ c0) (h : impl_allWithin.f l0 a1 a2 = some r) :
    Calls Try.prog 50 #[.slice A0 l0.length c0, .int .i64 a1, .int .i64 a2] w fun e w' => e = .returned (.bool r) ∧ Below w.heap.size w w' := by
  obtain rfl := Option.some.inj h
  clear h
  have HR0 := Aside0.mk hr0
  clear hr0 hc0
  have eg : ∀ args w, (callFunc 67 args).run Try.prog w = .ok (.enter 67 args) w := enters_of Try.func67 (by kernel_rfl) rfl
  have HC := Aside0.mk (slices_ContainsFunc_int_int_66.any A0 c0 l0 (fun n => !(decide (a1 ≤ n) && decide (n ≤ a2))) 67 #[.pointer (some ⟨w.heap.size, 0, none⟩), .pointer (some ⟨w.heap.size + 1, 0, none⟩)] eg ((w.alloc (.cells #[.int .i64 a1] 3)).alloc (.cells #[.int .i64 a2] 3))
    (Kd.C_alloc (Kd.C_alloc HR0.out _) _) (fun x _ => impl_allWithin.clo a1 a2 w.heap.size (w.heap.size + 1) _ (by simp; omega) (by simp) (by simp) (by simp) x))
  have HE := Aside0.mk (show (l0.all fun n => decide (a1 ≤ n) && decide (n ≤ a2)) = !(l0.any fun n => !(decide (a1 ≤ n) && decide (n ≤ a2))) by rw [List.not_any_eq_all_not]; simp)
  rw [HE.out]
  generalize (l0.any fun n => !(decide (a1 ≤ n) && decide (n ≤ a2))) = b at HC ⊢
  clear eg
  go_enter Try.func50, Try.ntmps50
  go_wp2_with (go_at_call 66; refine HC.out.mono ?_; rintro e w' ⟨rfl, hb'⟩)
  go_ret
  exact ⟨rfl, (((Below.refl _ w).alloc (Nat.le_refl _) _).alloc (by simp) _).trans (hb'.mono (by simp; omega))⟩

/-! ### impl_areRows: function 38 -/
def impl_areRows.p (n : Nat) (x : List Int) : Bool := decide (x.length = n) && x.all fun v => decide (0 ≤ v) && decide (v ≤ 50)
def impl_areRows.f (l0 : List (List Int)) : Option (Bool) := some ((decide (2 ≤ (l0.length : Int)) && decide ((l0.length : Int) ≤ 8)) && l0.all (impl_areRows.p l0.length))
theorem impl_areRows.within_eq (a lo hi : Int) : impl_within.f a lo hi = some (decide (lo ≤ a) && decide (a ≤ hi)) := by
  unfold impl_within.f
  by_cases h : a ≥ lo
  · rw [if_pos h]; simp [h]
  · rw [if_neg h]; simp [h]
set_option maxHeartbeats 4000000 in
theorem impl_areRows.clo (A0 : Option Addr) (n c0 b : Nat) (x : List Int) (A_ : Option Addr) (c_ : Nat) (w : World) (hx : x.length ≤ c_) (hr : Kd.C (Kd.int .i64) w A_ x.length x) (hb : b < w.heap.size) (hk : w.cell? ⟨b, 0, none⟩ = some (.slice A0 n c0)) :
    PredB Try.prog 63 #[.pointer (some ⟨b, 0, none⟩)] #[.slice A_ x.length c_] (!impl_areRows.p n x) w := fun W hB => by
  have k1 : W.cell? ⟨b, 0, none⟩ = some (.slice A0 n c0) := (hB.cell (p := ⟨b, 0, none⟩) hb).trans hk
  have HB := Aside0.mk hB
  have HR := Aside0.mk (Kd.C_below hr hB)
  have HX := Aside0.mk hx
  clear hk hB hr hx
  have HC := Aside0.mk (fun W' hR => impl_allWithin.calls A_ c_ x 0 50 _ W' hR HX.out rfl)
  unfold impl_areRows.p
  generalize (x.all fun v => decide (0 ≤ v) && decide (v ≤ 50)) = r at HC ⊢
  show Calls Try.prog 63 #[.slice A_ x.length c_, .pointer (some ⟨b, 0, none⟩)] W _
  by_cases e1 : x.length = n
  · subst e1
    have e2 : ((x.length : Int) != (x.length : Int)) = false := by simp
    go_enter Try.func63, Try.ntmps63
    go_wp2_with (go_at_call 50; refine (HC.out _ (by first | exact HR.out | exact Kd.C_drewN HR.out _)).mono ?_; rintro e w' ⟨rfl, hb'⟩)
    go_ret
    exact ⟨by first | rfl | simp, by have := HB.out; exact this.trans (hb'.mono (by have := this.size; first | exact this | simpa using this))⟩
  · have e2 : ((x.length : Int) != (n : Int)) = true := by simp; omega
    have e3 : ((x.length : Int) = (n : Int)) = False := by simp; omega
    go_enter Try.func63, Try.ntmps63
    go_wp2
    go_ret
    exact ⟨by first | rfl | simp [e1], HB.out⟩
set_option maxHeartbeats 4000000 in
theorem impl_areRows.calls (A0 : Option Addr) (c0 : Nat) (l0 : List (List Int)) (r : Bool) (w : World) (hr0 : Kd.C (Kd.slice 3 (Kd.int .i64)) w A0 l0.length l0) (hc0 : l0.length ≤ c0) (h : impl_areRows.f l0 = some r) :
    Calls Try.prog 38 #[.slice A0 l0.length c0] w fun e w' => e = .returned (.bool r) ∧ Below w.heap.size w w' := by
  obtain rfl := Option.some.inj h
  clear h hc0
  have HW := Aside0.mk (impl_areRows.within_eq (l0.length : Int) 2 8)
  have eg : ∀ args w, (callFunc 63 args).run Try.prog w = .ok (.enter 63 args) w := enters_of Try.func63 (by kernel_rfl) rfl
  have HC := Aside0.mk (fun nd => slices_ContainsFunc_int_int_62.any A0 c0 l0 (fun s => !impl_areRows.p l0.length s) 63 #[.pointer (some ⟨w.heap.size, 0, none⟩)] eg ((w.alloc (.cells #[.slice A0 l0.length c0] 22)).drewN nd) (Kd.C_drewN (Kd.C_alloc hr0 _) nd)
    (fun x _ A_ c_ hx hr => impl_areRows.clo A0 l0.length c0 w.heap.size x A_ c_ _ hx hr (by show w.heap.size < (w.alloc _).heap.size; simp) (by show (w.alloc _).cell? _ = _; simp)))
  have HE := Aside0.mk (show (l0.all (impl_areRows.p l0.length)) = !(l0.any fun s => !impl_areRows.p l0.length s) by rw [List.not_any_eq_all_not]; simp)
  rw [HE.out]
  clear HE eg hr0
  generalize (l0.any fun s => !impl_areRows.p l0.length s) = b at HC ⊢
  cases hg : (decide (2 ≤ (l0.length : Int)) && decide ((l0.length : Int) ≤ 8)) with
  | true =>
    rw [hg] at HW
    clear hg
    go_enter Try.func38, Try.ntmps38
    go_wp2_with (first | (go_at_call 61; refine (impl_within.calls _ _ _ true _ HW.out).mono ?_; rintro e w' ⟨rfl, ⟨nd, rfl⟩⟩) | (go_at_call 62; refine (HC.out nd).mono ?_; rintro e w' ⟨rfl, hb'⟩))
    go_ret
    exact ⟨by first | rfl | simp, (pw_below_drewN ((Below.refl _ w).alloc (Nat.le_refl _) _) _).trans (hb'.mono (by show w.heap.size ≤ (w.alloc _).heap.size; simp))⟩
  | false =>
    rw [hg] at HW
    clear hg
    go_enter Try.func38, Try.ntmps38
    go_wp2_with (first | (go_at_call 61; refine (impl_within.calls _ _ _ false _ HW.out).mono ?_; rintro e w' ⟨rfl, ⟨nd, rfl⟩⟩))
    go_ret
    exact ⟨by first | rfl | simp, pw_below_drewN ((Below.refl _ w).alloc (Nat.le_refl _) _) _⟩

/-! ### impl_GoodNet: function 14 -/
def impl_GoodNet.l0 : Nat → List (List Int) → Int → Int → Option (Bool)
  | 0, _, _, _ => none
  | k + 1, x8, x9, x10 => if x10 < x9 then (if 0 ≤ x10 then (if x10 < (x8.length : Int) then (if x10 < ((rd_L1 x8 x10).length : Int) then (if (rd (rd_L1 x8 x10) x10) = 0 then (impl_GoodNet.l0 k x8 x9 (wrap64 (x10 + 1))) else (some false)) else (none)) else (none)) else (none)) else (some true)
def impl_GoodNet.f (k : Nat) (l0 : List (List Int)) : Option (Bool) := (impl_areRows.f l0).bind fun t155 => (if t155 = true then (impl_GoodNet.l0 k l0 (l0.length : Int) 0) else (some false))
theorem impl_GoodNet.mono_l : ∀ k, (∀ y0 y1 y2, LeO (impl_GoodNet.l0 k y0 y1 y2) (impl_GoodNet.l0 (k + 1) y0 y1 y2))
  | 0 => fun _ _ _ r h => by simp [impl_GoodNet.l0] at h
  | k + 1 => by
    have ih0 := impl_GoodNet.mono_l k
    · intro y0 y1 y2
      unfold impl_GoodNet.l0
      repeat' first
      | (with_reducible exact ih0 _ _ _)
      | (with_reducible exact LeO.refl _)
      | (with_reducible exact LeO.none _)
      | (with_reducible refine LeO.ite ?_ ?_)
      | (with_reducible refine LeO.bind ?_ (fun _ => ?_))
      | exact ih0 _ _ _
      | exact LeO.none _
      | refine LeO.ite ?_ ?_
      | refine LeO.bind ?_ (fun _ => ?_)
theorem impl_GoodNet.mono : ∀ a0 k, LeO (impl_GoodNet.f k a0) (impl_GoodNet.f (k + 1) a0) := by
  intro a0 k
  have ih0 := impl_GoodNet.mono_l k
  unfold impl_GoodNet.f
  repeat' first
      | (with_reducible exact ih0 _ _ _)
      | (with_reducible exact LeO.refl _)
      | (with_reducible exact LeO.none _)
      | (with_reducible refine LeO.ite ?_ ?_)
      | (with_reducible refine LeO.bind ?_ (fun _ => ?_))
      | exact ih0 _ _ _
      | exact LeO.none _
      | refine LeO.ite ?_ ?_
      | refine LeO.bind ?_ (fun _ => ?_)
set_option maxHeartbeats 8000000 in
set_option maxRecDepth 100000 in
theorem impl_GoodNet.calls (k : Nat) (A0 : Option Addr) (c0 : Nat) (l0 : List (List Int)) (r : Bool) (w : World) (hr0 : Kd.C (Kd.slice 3 (Kd.int .i64)) w A0 l0.length l0) (hc0 : l0.length ≤ c0) (h : impl_GoodNet.f k l0 = some r) :
    Calls Try.prog 14 #[.slice A0 l0.length c0] w fun e w' => e = .returned (.bool r) ∧ Below w.heap.size w w' := by
  have HR0 := Aside0.mk hr0
  have HC0 := Aside0.mk hc0
  clear hr0 hc0
  have HB := Aside0.mk (Below.refl w.heap.size w)
  have H : ((impl_areRows.f l0).bind fun t155 => (if t155 = true then (impl_GoodNet.l0 k l0 (l0.length : Int) 0) else (some false))) = some r := h
  clear h
  replace H := Option.bind_eq_some_iff.mp H
  obtain ⟨t155, A20, H⟩ := H
  replace H : (if t155 = true then (impl_GoodNet.l0 k l0 (l0.length : Int) 0) else (some false)) = some r := H
  have A2 := Aside0.mk A20
  clear A20
  by_cases c3 : t155 = true
  · subst c3
    have H1 : (impl_GoodNet.l0 k l0 (l0.length : Int) 0) = some r := by rw [if_pos rfl] at H; exact H
    clear H
    have H := H1
    clear H1
    have H' := Aside0.mk H
    clear H
    go_enter Try.func14, Try.ntmps14
    go_wp2_with (first | ((with_reducible refine gate_callee (f := 38) rfl ?_); refine goesL_ (some 6) rfl rfl Try.func38 (by kernel_rfl) rfl #[.slice A0 l0.length c0] rfl (by (try simp only [List.map_toArray, List.map_cons, List.map_nil]); first | done | rfl | (simp only [List.length_drop, List.length_take]; rfl)) ?_; (with_reducible refine (impl_areRows.calls _ _ l0 true _ ?side1 ?side2 A2.out).mono ?_); (case side1 => repeat (first | exact HR0.out | (with_reducible refine Kd.C_alloc ?_ _) | (with_reducible refine Kd.C_drewN ?_ _) | (with_reducible refine Kd.C_drew ?_))); (case side2 => exact HC0.out); rintro e w4 ⟨rfl, hb⟩; refine ⟨_, rfl, ?_⟩; have n0_ := Aside0.mk (below_step (by repeat (first | (with_reducible first | exact HB.out | apply below_alloc | apply pw_below_drewN | apply below_drew1) | exact HB.out)) hb); clear HB; have HB := n0_; clear n0_; (try clear hb); (try clear hb2); (try clear hk); (try clear hi)))
    go_loopg [10] k (fun kq v10 w' => ∃ (x10_1 : Int), v10 = .int .i64 x10_1 ∧ Aside0 (impl_GoodNet.l0 kq l0 (l0.length : Int) x10_1 = some r) ∧ Aside0 (kq ≤ k) ∧ Aside0 (Below w.heap.size w w'))
    case atStart => exact ⟨(0), (by first | rfl | (simp; done) | (simp [*]; done)), H', ⟨Nat.le_refl _⟩, ⟨by repeat (first | (with_reducible first | exact HB.out | apply below_alloc | apply pw_below_drewN | apply below_drew1) | exact HB.out)⟩⟩
    case round =>
      clear H'
      try clear c1
      try clear p2
      try clear c3
      obtain ⟨x10_1, rfl, HA, HK1, HB⟩ := hrel
      cases gk with
      | zero => exact absurd HA.out (by simp [impl_GoodNet.l0])
      | succ k1 =>
        have H := HA.out
        clear HA
        simp only [impl_GoodNet.l0] at H
        by_cases c5 : x10_1 < (l0.length : Int)
        · rw [if_pos c5] at H
          have c5b0 : decide (x10_1 < (l0.length : Int)) = true := decide_eq_true c5
          clear c5
          by_cases c6 : 0 ≤ x10_1
          · rw [if_pos c6] at H
            have c6b0 : decide (0 ≤ x10_1) = true := decide_eq_true c6
            clear c6
            by_cases c7 : x10_1 < (l0.length : Int)
            · rw [if_pos c7] at H
              have c7b0 : decide (x10_1 < (l0.length : Int)) = true := decide_eq_true c7
              clear c7
              by_cases c8 : x10_1 < ((rd_L1 l0 x10_1).length : Int)
              · rw [if_pos c8] at H
                have c8b0 : decide (x10_1 < ((rd_L1 l0 x10_1).length : Int)) = true := decide_eq_true c8
                clear c8
                by_cases c9 : (rd (rd_L1 l0 x10_1) x10_1) = 0
                · rw [if_pos c9] at H
                  have c9b0 : ((rd (rd_L1 l0 x10_1) x10_1) == 0) = true := beq_iff_eq.mpr c9
                  have c9b1 : ((rd (rd_L1 l0 x10_1) x10_1) != 0) = false := bne_eq_false_iff_eq.mpr c9
                  clear c9
                  have H' := Aside0.mk H
                  clear H
                  have p156 : 0 ≤ (x10_1 : Int) := of_decide_eq_true (by first | (with_reducible assumption) | assumption)
                  have q156 : x10_1 < (l0.length : Int) := of_decide_eq_true (by first | (with_reducible assumption) | assumption)
                  obtain ⟨ad156, A156_0, c156_0, e156, hx156_0, hl156_0, hi156_0⟩ := at_L1 HR0.out x10_1 p156 q156
                  cases e156
                  replace hx156_0 := (HB.out.cell (World.block_lt_of_cell? w _ hx156_0)).trans hx156_0
                  have HR156_0 := Aside0.mk hi156_0
                  have HC156_0 := Aside0.mk hl156_0
                  clear hi156_0 hl156_0
                  replace p156 := eq_true p156
                  replace q156 := eq_true q156
                  have p157 : 0 ≤ (x10_1 : Int) := of_decide_eq_true (by first | (with_reducible assumption) | assumption)
                  have q157 : x10_1 < ((rd_L1 l0 x10_1).length : Int) := of_decide_eq_true (by first | (with_reducible assumption) | assumption)
                  obtain ⟨ad157, e157, hx157_0⟩ := Kd.at_int HR156_0.out x10_1 p157 q157
                  cases e157
                  replace hx157_0 := (HB.out.cell (World.block_lt_of_cell? w _ hx157_0)).trans hx157_0
                  replace p157 := eq_true p157
                  replace q157 := eq_true q157
                  go_wp2
                  go_roundg k1
                  case measure => have := HK1.out; omega
                  case rel => exact ⟨(wrap64 (x10_1 + 1)), (by first | rfl | (simp; done) | (simp [*]; done)), H', ⟨by have := HK1.out; omega⟩, ⟨by repeat (first | (with_reducible first | exact HB.out | apply below_alloc | apply pw_below_drewN | apply below_drew1) | exact HB.out)⟩⟩
                · rw [if_neg c9] at H
                  have c9b0 : ((rd (rd_L1 l0 x10_1) x10_1) == 0) = false := beq_eq_false_iff_ne.mpr c9
                  have c9b1 : ((rd (rd_L1 l0 x10_1) x10_1) != 0) = true := bne_iff_ne.mpr c9
                  obtain rfl := Option.some.inj H
                  have p156 : 0 ≤ (x10_1 : Int) := of_decide_eq_true (by first | (with_reducible assumption) | assumption)
                  have q156 : x10_1 < (l0.length : Int) := of_decide_eq_true (by first | (with_reducible assumption) | assumption)
                  obtain ⟨ad156, A156_0, c156_0, e156, hx156_0, hl156_0, hi156_0⟩ := at_L1 HR0.out x10_1 p156 q156
                  cases e156
                  replace hx156_0 := (HB.out.cell (World.block_lt_of_cell? w _ hx156_0)).trans hx156_0
                  have HR156_0 := Aside0.mk hi156_0
                  have HC156_0 := Aside0.mk hl156_0
                  clear hi156_0 hl156_0
                  replace p156 := eq_true p156
                  replace q156 := eq_true q156
                  have p157 : 0 ≤ (x10_1 : Int) := of_decide_eq_true (by first | (with_reducible assumption) | assumption)
                  have q157 : x10_1 < ((rd_L1 l0 x10_1).length : Int) := of_decide_eq_true (by first | (with_reducible assumption) | assumption)
                  obtain ⟨ad157, e157, hx157_0⟩ := Kd.at_int HR156_0.out x10_1 p157 q157
                  cases e157
                  replace hx157_0 := (HB.out.cell (World.block_lt_of_cell? w _ hx157_0)).trans hx157_0
                  replace p157 := eq_true p157
                  replace q157 := eq_true q157
                  go_wp2
                  go_ret
                  exact ⟨by first | rfl | (simp [errW_none, errW_some] <;> rfl) | (simp [*, errW_none, errW_some] <;> rfl), by repeat (first | (with_reducible first | exact HB.out | apply below_alloc | apply pw_below_drewN | apply below_drew1) | exact HB.out)⟩
              · rw [if_neg c8] at H
                exact absurd H (by simp)
            · rw [if_neg c7] at H
              exact absurd H (by simp)
          · rw [if_neg c6] at H
            exact absurd H (by simp)
        · rw [if_neg c5] at H
          have c5b0 : decide (x10_1 < (l0.length : Int)) = false := decide_eq_false c5
          clear c5
          obtain rfl := Option.some.inj H
          go_wp2
          go_ret
          exact ⟨by first | rfl | (simp [errW_none, errW_some] <;> rfl) | (simp [*, errW_none, errW_some] <;> rfl), by repeat (first | (with_reducible first | exact HB.out | apply below_alloc | apply pw_below_drewN | apply below_drew1) | exact HB.out)⟩
  · replace c3 := Bool.eq_false_iff.mpr c3
    subst c3
    have H1 : (some false) = some r := by rw [if_neg (show ¬ (false = true) by decide)] at H; exact H
    clear H
    have H := H1
    clear H1
    obtain rfl := Option.some.inj H
    go_enter Try.func14, Try.ntmps14
    go_wp2_with (first | ((with_reducible refine gate_callee (f := 38) rfl ?_); refine goesL_ (some 6) rfl rfl Try.func38 (by kernel_rfl) rfl #[.slice A0 l0.length c0] rfl (by (try simp only [List.map_toArray, List.map_cons, List.map_nil]); first | done | rfl | (simp only [List.length_drop, List.length_take]; rfl)) ?_; (with_reducible refine (impl_areRows.calls _ _ l0 false _ ?side1 ?side2 A2.out).mono ?_); (case side1 => repeat (first | exact HR0.out | (with_reducible refine Kd.C_alloc ?_ _) | (with_reducible refine Kd.C_drewN ?_ _) | (with_reducible refine Kd.C_drew ?_))); (case side2 => exact HC0.out); rintro e w10 ⟨rfl, hb⟩; refine ⟨_, rfl, ?_⟩; have n0_ := Aside0.mk (below_step (by repeat (first | (with_reducible first | exact HB.out | apply below_alloc | apply pw_below_drewN | apply below_drew1) | exact HB.out)) hb); clear HB; have HB := n0_; clear n0_; (try clear hb); (try clear hb2); (try clear hk); (try clear hi)))
    go_ret
    exact ⟨by first | rfl | (simp [errW_none, errW_some] <;> rfl) | (simp [*, errW_none, errW_some] <;> rfl), by repeat (first | (with_reducible first | exact HB.out | apply below_alloc | apply pw_below_drewN | apply below_drew1) | exact HB.out)⟩

end Go.Proofs.Ytdbepjnapjjlcaa.GLPushWay
