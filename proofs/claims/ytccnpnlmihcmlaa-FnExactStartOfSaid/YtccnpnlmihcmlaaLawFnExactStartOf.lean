/- The given statement FnExactStartOfSaid: at every input the law returns true, and each argument reads afterwards as before. No condition of its own. -/
import Derived.Test.YtccnpnlmihcmlaaRows
import Derived.Test.YtccnpnlmihcmlaaGLStartOf9
import Derived.Test.YtccnpnlmihcmlaaPureFnExactStartOf
import Derived.Test.YtccnpnlmihcmlaaXStartOfOpens
import Derived.WalkKit
import Derived.ProofKit
import Derived.OpenShut
import Derived.ShutString
import Derived.ChangeOld
import Derived.Below
import Derived.SizedLaws
import Derived.Lib.SmallJoins
namespace Go.Proofs.Ytccnpnlmihcmlaa.fnExactStartOf
open Go.ChangeShapes Go.WideShapes Go.ChangeAt Go.RowKit Go.Joins Go.Proofs.Ytccnpnlmihcmlaa.GLStartOf Go.Proofs.YtccnpnlmihcmlaaW.PrintWords Go.Proofs.YtccnpnlmihcmlaaW.PrintOpens
open Go.ChangeMaps (open_string shut_string)
set_option linter.unusedVariables false
theorem own : ownKnob Try.prog.godebug = none := by kernel_rfl
theorem laidOut : laidOutB Try.prog = true := by kernel_rfl
set_option maxRecDepth 100000 in
theorem lifted (os : Os) (started : os.Started) (H : Type) (enc : TypeId × Value → H) :
    ReturnsInHanded {} Try.checked os 13 .any (Rows.fnExactStartOfSpec.pre6 enc Try.prog Try.f13 Rows.fnExactStartOfRow.domain false) (Rows.fnExactStartOfSpec.post enc Try.prog Try.f13 false true false false) := by
  refine returnsInHanded_of_change_sized (C := Try.checked) own started (by kernel_rfl) Try.func13
    (ChangeSpec.witness6 (enc := enc) (C := Try.checked) false ⟨#[], #[.agg #[.slice none 0 0, .slice none 0 0, .slice none 0 0, .slice none 0 0, .int .i64 0]], []⟩ 8 (by kernel_rfl) (by kernel_rfl) (by kernel_rfl) (by kernel_rfl)) ?_
  intro W base args ds gs before hval0 hW hcnd hsz0 _
  have hval : ∀ (j : Nat) t v, Try.f13.params[j]? = some t → args[j]? = some v → Value.okWide Try.prog W .any base t v := hval0
  have hW' := hW
  obtain ⟨p, q, hA0, hV, rfl, hfz, hnd⟩ := hW
  have hA : DataW.TrodAll enc Try.prog W 0 (fun _ => true) true Try.f13.params.toList args.toList ds p := hA0
  rw [Try.params13] at hA hval
  obtain ⟨v0, vs0, d0, ds0, p0, q0, hargs, rfl, rfl, h0, r0⟩ := trodAll_cons hA
  obtain ⟨rfl, rfl, rfl⟩ := trodAll_nil r0
  obtain rfl : args = #[v0] := by cases args; simp_all
  obtain ⟨rfl, rfl⟩ := trodVars_none hV
  have k0 := h0
  have lt0 : ∀ x ∈ p0, x.block < W.heap.size := by obtain ⟨m, hm⟩ := k0; exact DataW.trod_lt m _ _ _ hm
  obtain ⟨f0_0, f0_1, f0_2, f0_3, f0_4, _, _, _, _, _, _, rfl, t0_0, t0_1, t0_2, t0_3, t0_4⟩ := open_agg5 Try.underlying51 (by kernel_rfl) (by kernel_rfl) (hval 0 51 v0 rfl rfl) h0
  obtain ⟨A0_0, c0_0, l0_0, rfl, hr0_0, hc0_0, hw0_0⟩ := cell_slice (opens_slice Try.underlying22 (by kernel_rfl) (opens_int (k := .i64) Try.underlying3 (by kernel_rfl))) t0_0
  obtain ⟨A0_1, c0_1, l0_1, rfl, hr0_1, hc0_1, hw0_1⟩ := cell_slice (opens_slice Try.underlying22 (by kernel_rfl) (opens_int (k := .i64) Try.underlying3 (by kernel_rfl))) t0_1
  obtain ⟨A0_2, c0_2, l0_2, rfl, hr0_2, hc0_2, hw0_2⟩ := cell_slice (opens_slice Try.underlying26 (by kernel_rfl) (opens_pair (fun a b => (⟨a, b⟩ : S36)) (fun x : S36 => (x.f0, x.f1)) (fun _ _ => rfl) Try.underlying36 (by kernel_rfl) rfl rfl (opens_int (k := .i64) Try.underlying3 (by kernel_rfl)) (opens_int (k := .i64) Try.underlying3 (by kernel_rfl)))) t0_2
  obtain ⟨A0_3, c0_3, l0_3, rfl, hr0_3, hc0_3, hw0_3⟩ := cell_slice (opens_slice Try.underlying26 (by kernel_rfl) (opens_pair (fun a b => (⟨a, b⟩ : S36)) (fun x : S36 => (x.f0, x.f1)) (fun _ _ => rfl) Try.underlying36 (by kernel_rfl) rfl rfl (opens_int (k := .i64) Try.underlying3 (by kernel_rfl)) (opens_int (k := .i64) Try.underlying3 (by kernel_rfl)))) t0_3
  obtain ⟨a0_4, rfl, hw0_4⟩ := cell_int (opens_int (k := .i64) Try.underlying3 (by kernel_rfl)) t0_4
  clear hA0 hval0 hsz0
  refine (laws_FnExactStartOf.walk Pure.FnExactStartOf A0_0 c0_0 l0_0 A0_1 c0_1 l0_1 A0_2 c0_2 l0_2 A0_3 c0_3 l0_3 a0_4 W hr0_0 hc0_0 hw0_0 hr0_1 hc0_1 hw0_1 hr0_2 hc0_2 hw0_2 hr0_3 hc0_3 hw0_3 hw0_4).mono fun e W' ⟨he, bel⟩ => ?_
  subst he
  exact ⟨_, rfl, _, _, _, [], _, [], hW', trodAll_mk1 (shut_bool Try.underlying4 _), (trodAll_cons_mk (Below.trod laidOut (by kernel_rfl) (of_decide_eq_true (by kernel_rfl)) k0 bel lt0) trodAll_mk0), rfl, bel.frame _, fun h => by cases h⟩
theorem over : Rows.fnExactStartOfRow.holds Try.pinned (OpenSpec.ofChange Rows.fnExactStartOfSpec) :=
  OpenClaim.holds_of_wide 13 Try.f13 rfl rfl rfl rfl rfl rfl rfl ⟨rfl, rfl, rfl, rfl, rfl⟩ rfl rfl rfl rfl rfl (by kernel_rfl) Try.func13 (by kernel_rfl)
    (of_decide_eq_true (by kernel_rfl)) (by unfold Func.isWrapper; first | (rw [if_pos (by decide +kernel)]; kernel_rfl) | (rw [if_neg (by decide +kernel)]; exact ⟨rfl, rfl⟩))
    (fun os started H enc _ => lifted os started H enc)
theorem proved : Rows.FnExactStartOfSaid := over
#print axioms proved
end Go.Proofs.Ytccnpnlmihcmlaa.fnExactStartOf
namespace Go.Proofs.Ytccnpnlmihcmlaa
/-- The row, under a short name, for the claim. -/
theorem fnExactStartOf_holds : Rows.FnExactStartOfSaid := fnExactStartOf.proved
end Go.Proofs.Ytccnpnlmihcmlaa
