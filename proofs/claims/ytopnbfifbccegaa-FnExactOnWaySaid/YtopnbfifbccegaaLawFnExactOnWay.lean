/- The given statement FnExactOnWaySaid: at every input the law returns true, and each argument reads afterwards as before. No condition of its own. -/
import Derived.Test.YtopnbfifbccegaaRows
import Derived.Test.YtopnbfifbccegaaGA4
import Derived.Test.YtopnbfifbccegaaPureFnExactOnWay
import Derived.Test.YtopnbfifbccegaaOpens
import Derived.WalkKit
import Derived.ProofKit
import Derived.OpenShut
import Derived.ShutString
import Derived.ChangeOld
import Derived.Below
import Derived.SizedLaws
import Derived.Lib.SmallJoins
namespace Go.Proofs.Ytopnbfifbccegaa.fnExactOnWay
open Go.ChangeShapes Go.WideShapes Go.ChangeAt Go.RowKit Go.Joins Go.Proofs.Ytopnbfifbccegaa.GA Go.Proofs.YtopnbfifbccegaaW.PrintWords Go.Proofs.YtopnbfifbccegaaW.PrintOpens
open Go.ChangeMaps (open_string shut_string)
set_option linter.unusedVariables false
theorem own : ownKnob Try.prog.godebug = none := by kernel_rfl
theorem laidOut : laidOutB Try.prog = true := by kernel_rfl
set_option maxRecDepth 100000 in
theorem lifted (os : Os) (started : os.Started) (H : Type) (enc : TypeId × Value → H) :
    ReturnsInHanded {} Try.checked os 4 .any (Rows.fnExactOnWaySpec.pre6 enc Try.prog Try.f4 Rows.fnExactOnWayRow.domain false) (Rows.fnExactOnWaySpec.post enc Try.prog Try.f4 false true false false) := by
  refine returnsInHanded_of_change_sized (C := Try.checked) own started (by kernel_rfl) Try.func4
    (ChangeSpec.witness6 (enc := enc) (C := Try.checked) false ⟨#[], #[.agg #[.int .i64 0, .int .i64 0], .agg #[.int .i64 0, .int .i64 0], .agg #[.int .i64 0, .int .i64 0]], []⟩ 8 (by kernel_rfl) (by kernel_rfl) (by kernel_rfl) (by kernel_rfl)) ?_
  intro W base args ds gs before hval0 hW hcnd hsz0 _
  have hval : ∀ (j : Nat) t v, Try.f4.params[j]? = some t → args[j]? = some v → Value.okWide Try.prog W .any base t v := hval0
  have hW' := hW
  obtain ⟨p, q, hA0, hV, rfl, hfz, hnd⟩ := hW
  have hA : DataW.TrodAll enc Try.prog W 0 (fun _ => true) true Try.f4.params.toList args.toList ds p := hA0
  rw [Try.params4] at hA hval
  obtain ⟨v0, vs0, d0, ds0, p0, q0, hargs, rfl, rfl, h0, r0⟩ := trodAll_cons hA
  obtain ⟨v1, vs1, d1, ds1, p1, q1, rfl, rfl, rfl, h1, r1⟩ := trodAll_cons r0
  obtain ⟨v2, vs2, d2, ds2, p2, q2, rfl, rfl, rfl, h2, r2⟩ := trodAll_cons r1
  obtain ⟨rfl, rfl, rfl⟩ := trodAll_nil r2
  obtain rfl : args = #[v0, v1, v2] := by cases args; simp_all
  obtain ⟨rfl, rfl⟩ := trodVars_none hV
  have k0 := h0
  have lt0 : ∀ x ∈ p0, x.block < W.heap.size := by obtain ⟨m, hm⟩ := k0; exact DataW.trod_lt m _ _ _ hm
  obtain ⟨f0_0, f0_1, _, _, _, rfl, _, _, t0_0, t0_1⟩ := open_agg2 Try.underlying27 (by kernel_rfl) (by kernel_rfl) (hval 0 27 v0 rfl rfl) h0
  obtain ⟨a0_0, rfl, hw0_0⟩ := cell_int (opens_int (k := .i64) Try.underlying3 (by kernel_rfl)) t0_0
  obtain ⟨a0_1, rfl, hw0_1⟩ := cell_int (opens_int (k := .i64) Try.underlying3 (by kernel_rfl)) t0_1
  have k1 := h1
  have lt1 : ∀ x ∈ p1, x.block < W.heap.size := by obtain ⟨m, hm⟩ := k1; exact DataW.trod_lt m _ _ _ hm
  obtain ⟨f1_0, f1_1, _, _, _, rfl, _, _, t1_0, t1_1⟩ := open_agg2 Try.underlying27 (by kernel_rfl) (by kernel_rfl) (hval 1 27 v1 rfl rfl) h1
  obtain ⟨a1_0, rfl, hw1_0⟩ := cell_int (opens_int (k := .i64) Try.underlying3 (by kernel_rfl)) t1_0
  obtain ⟨a1_1, rfl, hw1_1⟩ := cell_int (opens_int (k := .i64) Try.underlying3 (by kernel_rfl)) t1_1
  have k2 := h2
  have lt2 : ∀ x ∈ p2, x.block < W.heap.size := by obtain ⟨m, hm⟩ := k2; exact DataW.trod_lt m _ _ _ hm
  obtain ⟨f2_0, f2_1, _, _, _, rfl, _, _, t2_0, t2_1⟩ := open_agg2 Try.underlying27 (by kernel_rfl) (by kernel_rfl) (hval 2 27 v2 rfl rfl) h2
  obtain ⟨a2_0, rfl, hw2_0⟩ := cell_int (opens_int (k := .i64) Try.underlying3 (by kernel_rfl)) t2_0
  obtain ⟨a2_1, rfl, hw2_1⟩ := cell_int (opens_int (k := .i64) Try.underlying3 (by kernel_rfl)) t2_1
  clear hA0 hval0 hsz0
  refine (laws_FnExactOnWay.walk Pure.FnExactOnWay a0_0 a0_1 a1_0 a1_1 a2_0 a2_1 W hw0_0 hw0_1 hw1_0 hw1_1 hw2_0 hw2_1).mono fun e W' ⟨he, bel⟩ => ?_
  subst he
  exact ⟨_, rfl, _, _, _, [], _, [], hW', trodAll_mk1 (shut_bool Try.underlying4 _), (trodAll_cons_mk (Below.trod laidOut (by kernel_rfl) (of_decide_eq_true (by kernel_rfl)) k0 bel lt0) (trodAll_cons_mk (Below.trod laidOut (by kernel_rfl) (of_decide_eq_true (by kernel_rfl)) k1 bel lt1) (trodAll_cons_mk (Below.trod laidOut (by kernel_rfl) (of_decide_eq_true (by kernel_rfl)) k2 bel lt2) trodAll_mk0))), rfl, bel.frame _, fun h => by cases h⟩
theorem over : Rows.fnExactOnWayRow.holds Try.pinned (OpenSpec.ofChange Rows.fnExactOnWaySpec) :=
  OpenClaim.holds_of_wide 4 Try.f4 rfl rfl rfl rfl rfl rfl rfl ⟨rfl, rfl, rfl, rfl, rfl⟩ rfl rfl rfl rfl rfl (by kernel_rfl) Try.func4 (by kernel_rfl)
    (of_decide_eq_true (by kernel_rfl)) (by unfold Func.isWrapper; first | (rw [if_pos (by decide +kernel)]; kernel_rfl) | (rw [if_neg (by decide +kernel)]; exact ⟨rfl, rfl⟩))
    (fun os started H enc _ => lifted os started H enc)
theorem proved : Rows.FnExactOnWaySaid := over
#print axioms proved
end Go.Proofs.Ytopnbfifbccegaa.fnExactOnWay
namespace Go.Proofs.Ytopnbfifbccegaa
/-- The row, under a short name, for the claim. -/
theorem fnExactOnWay_holds : Rows.FnExactOnWaySaid := fnExactOnWay.proved
end Go.Proofs.Ytopnbfifbccegaa
