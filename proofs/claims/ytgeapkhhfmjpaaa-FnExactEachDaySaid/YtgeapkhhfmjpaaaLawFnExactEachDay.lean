/- The given statement FnExactEachDaySaid: at every input the law returns true, and each argument reads afterwards as before. No condition of its own. -/
import Derived.Test.YtgeapkhhfmjpaaaRows
import Derived.Test.YtgeapkhhfmjpaaaGLEachDay4
import Derived.Test.YtgeapkhhfmjpaaaPureFnExactEachDay
import Derived.Test.YtgeapkhhfmjpaaaOpens
import Derived.WalkKit
import Derived.ProofKit
import Derived.OpenShut
import Derived.ShutString
import Derived.ChangeOld
import Derived.Below
import Derived.SizedLaws
import Derived.Lib.SmallJoins
namespace Go.Proofs.Ytgeapkhhfmjpaaa.fnExactEachDay
open Go.ChangeShapes Go.WideShapes Go.ChangeAt Go.RowKit Go.Joins Go.Proofs.Ytgeapkhhfmjpaaa.GLEachDay Go.Proofs.YtgeapkhhfmjpaaaW.PrintWords Go.Proofs.YtgeapkhhfmjpaaaW.PrintOpens
open Go.ChangeMaps (open_string shut_string)
set_option linter.unusedVariables false
theorem own : ownKnob Try.prog.godebug = none := by kernel_rfl
theorem laidOut : laidOutB Try.prog = true := by kernel_rfl
set_option maxRecDepth 100000 in
theorem lifted (os : Os) (started : os.Started) (H : Type) (enc : TypeId × Value → H) :
    ReturnsInHanded {} Try.checked os 8 .any (Rows.fnExactEachDaySpec.pre6 enc Try.prog Try.f8 Rows.fnExactEachDayRow.domain false) (Rows.fnExactEachDaySpec.post enc Try.prog Try.f8 false true false false) := by
  refine returnsInHanded_of_change_sized (C := Try.checked) own started (by kernel_rfl) Try.func8
    (ChangeSpec.witness6 (enc := enc) (C := Try.checked) false ⟨#[], #[.agg #[.slice none 0 0, .int .i64 0, .int .i64 0]], []⟩ 8 (by kernel_rfl) (by kernel_rfl) (by kernel_rfl) (by kernel_rfl)) ?_
  intro W base args ds gs before hval0 hW hcnd hsz0 _
  have hval : ∀ (j : Nat) t v, Try.f8.params[j]? = some t → args[j]? = some v → Value.okWide Try.prog W .any base t v := hval0
  have hW' := hW
  obtain ⟨p, q, hA0, hV, rfl, hfz, hnd⟩ := hW
  have hA : DataW.TrodAll enc Try.prog W 0 (fun _ => true) true Try.f8.params.toList args.toList ds p := hA0
  rw [Try.params8] at hA hval
  obtain ⟨v0, vs0, d0, ds0, p0, q0, hargs, rfl, rfl, h0, r0⟩ := trodAll_cons hA
  obtain ⟨rfl, rfl, rfl⟩ := trodAll_nil r0
  obtain rfl : args = #[v0] := by cases args; simp_all
  obtain ⟨rfl, rfl⟩ := trodVars_none hV
  have k0 := h0
  have lt0 : ∀ x ∈ p0, x.block < W.heap.size := by obtain ⟨m, hm⟩ := k0; exact DataW.trod_lt m _ _ _ hm
  obtain ⟨f0_0, f0_1, f0_2, _, _, _, _, rfl, _, _, t0_0, t0_1, t0_2⟩ := open_agg3 Try.underlying45 (by kernel_rfl) (by kernel_rfl) (hval 0 45 v0 rfl rfl) h0
  obtain ⟨A0_0, c0_0, l0_0, rfl, hr0_0, hc0_0, hw0_0⟩ := cell_slice (opens_slice Try.underlying22 (by kernel_rfl) (opens_int (k := .i64) Try.underlying3 (by kernel_rfl))) t0_0
  obtain ⟨a0_1, rfl, hw0_1⟩ := cell_int (opens_int (k := .i64) Try.underlying3 (by kernel_rfl)) t0_1
  obtain ⟨a0_2, rfl, hw0_2⟩ := cell_int (opens_int (k := .i64) Try.underlying3 (by kernel_rfl)) t0_2
  clear hA0 hval0 hsz0
  refine (laws_FnExactEachDay.walk Pure.FnExactEachDay A0_0 c0_0 l0_0 a0_1 a0_2 W hr0_0 hc0_0 hw0_0 hw0_1 hw0_2).mono fun e W' ⟨he, bel⟩ => ?_
  subst he
  exact ⟨_, rfl, _, _, _, [], _, [], hW', trodAll_mk1 (shut_bool Try.underlying4 _), (trodAll_cons_mk (Below.trod laidOut (by kernel_rfl) (of_decide_eq_true (by kernel_rfl)) k0 bel lt0) trodAll_mk0), rfl, bel.frame _, fun h => by cases h⟩
theorem over : Rows.fnExactEachDayRow.holds Try.pinned (OpenSpec.ofChange Rows.fnExactEachDaySpec) :=
  OpenClaim.holds_of_wide 8 Try.f8 rfl rfl rfl rfl rfl rfl rfl ⟨rfl, rfl, rfl, rfl, rfl⟩ rfl rfl rfl rfl rfl (by kernel_rfl) Try.func8 (by kernel_rfl)
    (of_decide_eq_true (by kernel_rfl)) (by unfold Func.isWrapper; first | (rw [if_pos (by decide +kernel)]; kernel_rfl) | (rw [if_neg (by decide +kernel)]; exact ⟨rfl, rfl⟩))
    (fun os started H enc _ => lifted os started H enc)
theorem proved : Rows.FnExactEachDaySaid := over
#print axioms proved
end Go.Proofs.Ytgeapkhhfmjpaaa.fnExactEachDay
namespace Go.Proofs.Ytgeapkhhfmjpaaa
/-- The row, under a short name, for the claim. -/
theorem fnExactEachDay_holds : Rows.FnExactEachDaySaid := fnExactEachDay.proved
end Go.Proofs.Ytgeapkhhfmjpaaa
