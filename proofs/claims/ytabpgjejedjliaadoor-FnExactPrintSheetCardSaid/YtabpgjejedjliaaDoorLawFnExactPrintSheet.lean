/- The given statement FnExactPrintSheetSaid: at every input the law returns true, and each argument reads afterwards as before. No condition of its own. -/
import Derived.Test.YtabpgjejedjliaaDoorRows
import Derived.Test.YtabpgjejedjliaaDoorGLPrintSheet9
import Derived.Test.YtabpgjejedjliaaDoorPureFnExactPrintSheet
import Derived.Test.YtabpgjejedjliaaDoorOpens
import Derived.WalkKit
import Derived.ProofKit
import Derived.OpenShut
import Derived.ShutString
import Derived.ChangeOld
import Derived.Below
import Derived.SizedLaws
import Derived.Lib.SmallJoins
import Derived.LaidMore
import Derived.LaidSub
import Derived.Lay
import Derived.SevenTiedAt
import Derived.Stop.Joined
import Derived.Test.YtabpgjejedjliaaDoorCards
import Derived.Test.YtabpgjejedjliaaDoorTie
namespace Go.Proofs.YtabpgjejedjliaaDoor.fnExactPrintSheet
open Go.ChangeShapes Go.WideShapes Go.ChangeAt Go.RowKit Go.Joins Go.Proofs.YtabpgjejedjliaaDoor.GLPrintSheet Go.Proofs.YtabpgjejedjliaaDoorW.PrintWords Go.Proofs.YtabpgjejedjliaaDoorW.PrintOpens
open Go.ChangeMaps (open_string shut_string)
set_option linter.unusedVariables false
theorem own : ownKnob Tryd.prog.godebug = none := by kernel_rfl
theorem laidOut : laidOutB Tryd.prog = true := by kernel_rfl
set_option maxRecDepth 100000 in
theorem lifted (os : Os) (started : os.Started) (H : Type) (enc : TypeId × Value → H) :
    ReturnsInHanded {} Tryd.checked os 3 .any (fun w args => (Rows.fnExactPrintSheetSpec.pre enc Tryd.prog Tryd.f3 Rows.fnExactPrintSheetRow.domain false w args ∧ laidMetH Tryd.prog Rows.fnExactPrintSheetRow.laid w) ∧ sizedMet enc Tryd.prog Tryd.f3 (OpenSpec.ofChange Rows.fnExactPrintSheetSpec) false w args) (Rows.fnExactPrintSheetSpec.post enc Tryd.prog Tryd.f3 false true false false) := by
  refine returnsInHanded_of_change_and (C := Tryd.checked) (X := fun w _ => laidMetH Tryd.prog Rows.fnExactPrintSheetRow.laid w) (fun _ _ _ hh h => h.of_heap hh) own started (by kernel_rfl) Tryd.func3
    (ChangeSpec.witness_shaped (enc := enc) (C := Tryd.checked) (os := os) (X := fun w _ => laidMetH Tryd.prog Rows.fnExactPrintSheetRow.laid w) false (World.laidAll Tryd.prog os Rows.fnExactPrintSheetRow.laid) #[.agg #[.slice none 0 0, .slice none 0 0]] 8 (World.laidAll_os _ _ _)
      (World.shaped_of_ZipB (by kernel_rfl) (by kernel_rfl)) (by kernel_rfl) (by kernel_rfl) (by kernel_rfl)
      (by rw [MakeChecks.laidMetH_plain _ _ _ (by kernel_rfl)]; exact laidMet_laidAll _ (by kernel_rfl) (by kernel_rfl))) ?_
  intro W base args ds gs before hval0 hW hcnd hsz0 hL _
  have hval : ∀ (j : Nat) t v, Tryd.f3.params[j]? = some t → args[j]? = some v → Value.okWide Tryd.prog W .any base t v := hval0
  have hW' := hW
  obtain ⟨p, q, hA0, hV, rfl, hfz, hnd⟩ := hW
  have hA : DataW.TrodAll enc Tryd.prog W 0 (fun _ => true) true Tryd.f3.params.toList args.toList ds p := hA0
  rw [Tryd.params3] at hA hval
  obtain ⟨v0, vs0, d0, ds0, p0, q0, hargs, rfl, rfl, h0, r0⟩ := trodAll_cons hA
  obtain ⟨rfl, rfl, rfl⟩ := trodAll_nil r0
  obtain rfl : args = #[v0] := by cases args; simp_all
  obtain ⟨rfl, rfl⟩ := trodVars_none hV
  have k0 := h0
  have lt0 : ∀ x ∈ p0, x.block < W.heap.size := by obtain ⟨m, hm⟩ := k0; exact DataW.trod_lt m _ _ _ hm
  obtain ⟨f0_0, f0_1, _, _, _, rfl, _, _, t0_0, t0_1⟩ := open_agg2 Tryd.underlying25 (by kernel_rfl) (by kernel_rfl) (hval 0 25 v0 rfl rfl) h0
  obtain ⟨A0_0, c0_0, l0_0, rfl, hr0_0, hc0_0, hw0_0⟩ := cell_slice (opens_slice Tryd.underlying22 (by kernel_rfl) (opens_pair (fun a b => (⟨a, b⟩ : S84)) (fun x : S84 => (x.f0, x.f1)) (fun _ _ => rfl) Tryd.underlying84 (by kernel_rfl) rfl rfl (opens_string Tryd.underlying9 (by kernel_rfl)) (opens_int (k := .i64) Tryd.underlying3 (by kernel_rfl)))) t0_0
  obtain ⟨A0_1, c0_1, l0_1, rfl, hr0_1, hc0_1, hw0_1⟩ := cell_slice (opens_slice Tryd.underlying23 (by kernel_rfl) (opens_pair (fun a b => (⟨a, b⟩ : S87)) (fun x : S87 => (x.f0, x.f1)) (fun _ _ => rfl) Tryd.underlying87 (by kernel_rfl) rfl rfl (opens_int (k := .i64) Tryd.underlying3 (by kernel_rfl)) (opens_int (k := .i64) Tryd.underlying3 (by kernel_rfl)))) t0_1
  clear hA0 hval0 hsz0
  have hk_ := laidMetH.filter (fun x => x.1 == "internal/strconv.uint64pow10") hL
  have hk2_ : laidMetH Tryd.prog [("internal/strconv.uint64pow10", Lib.tabData .u64 Lib.pow10Tab)] W := by
    have e_ : (Rows.fnExactPrintSheetRow.laid.filter fun x => x.1 == "internal/strconv.uint64pow10") = [("internal/strconv.uint64pow10", Lib.tabData .u64 Lib.pow10Tab)] := by kernel_rfl
    rw [← e_]
    exact hk_
  rw [MakeChecks.laidMetH_plain _ _ _ (by kernel_rfl)] at hk2_
  have htab_ : Lib.TabIs Tryd.prog W "internal/strconv.uint64pow10" .u64 Lib.pow10Tab := Lib.tabIs_of_head (g := 0) (t := 108) (e := 100) (n := 20) impl_PrintSheet.tabNo (by kernel_rfl) Tryd.underlying108 Tryd.underlying100 (by kernel_rfl) (by kernel_rfl) hk2_
  refine (laws_FnExactPrintSheet.walk Pure.FnExactPrintSheet A0_0 c0_0 l0_0 A0_1 c0_1 l0_1 W hr0_0 hc0_0 hw0_0 hr0_1 hc0_1 hw0_1 htab_).mono fun e W' ⟨he, bel⟩ => ?_
  subst he
  exact ⟨_, rfl, _, _, _, [], _, [], hW', trodAll_mk1 (shut_bool Tryd.underlying4 _), (trodAll_cons_mk (Below.trod laidOut (by kernel_rfl) (of_decide_eq_true (by kernel_rfl)) k0 bel lt0) trodAll_mk0), rfl, bel.frame _, fun h => by cases h⟩
theorem over : Rows.fnExactPrintSheetRow.holds Tryd.pinned (OpenSpec.ofChange Rows.fnExactPrintSheetSpec) :=
  OpenClaim.holds_of_wide 3 Tryd.f3 rfl rfl rfl rfl rfl rfl rfl ⟨rfl, rfl, rfl, rfl, rfl⟩ rfl rfl rfl rfl rfl (by kernel_rfl) Tryd.func3 (by kernel_rfl)
    (of_decide_eq_true (by kernel_rfl)) (by unfold Func.isWrapper; first | (rw [if_pos (by decide +kernel)]; kernel_rfl) | (rw [if_neg (by decide +kernel)]; exact ⟨rfl, rfl⟩))
    (fun os started H enc _ => lifted os started H enc)
theorem plain (f : FuncId) (fn : Func) (hf : Tryd.pinned.checked.prog.funcNamed "loop.example/g00451/laws.FnExactPrintSheet" = some f) (hfn : Tryd.pinned.checked.prog.funcs[f]? = some fn) :
    false = Tryd.pinned.checked.prog.looks [] ∧ ∀ (j : Nat) t, fn.params[j]? = some t → Tryd.pinned.checked.prog.wantsStandIn t = false := by
  obtain rfl : f = 3 := Option.some.inj ((show Tryd.prog.funcNamed "loop.example/g00451/laws.FnExactPrintSheet" = some 3 by kernel_rfl).symm.trans hf) |>.symm
  obtain rfl : fn = Tryd.f3 := (Option.some.inj (Tryd.func3.symm.trans hfn)).symm
  refine ⟨by kernel_rfl, fun j t ht => ?_⟩
  rw [Tryd.params3] at ht
  have hm : t ∈ [25] := by simpa using Array.mem_of_getElem? ht
  have hall : ([25].all fun u => !Tryd.prog.wantsStandIn u) = true := by kernel_rfl
  exact (show Tryd.prog.wantsStandIn t = false by simpa using List.all_eq_true.1 hall t hm)
theorem proved : Rows.FnExactPrintSheetCardSaid :=
  Claim7.holds_tied_plain_at .later [] _ _ _ _ over (fun _ h => by cases h) (by kernel_rfl) (fun _ h => by cases h) fnExactPrintSheet_row_tie rfl ⟨rfl, rfl⟩ (by kernel_rfl) rfl plain (by kernel_rfl)
#print axioms proved
end Go.Proofs.YtabpgjejedjliaaDoor.fnExactPrintSheet
namespace Go.Proofs.YtabpgjejedjliaaDoor
/-- The tied card, under a short name, for the claim. -/
theorem fnExactPrintSheet_holds : Rows.FnExactPrintSheetCardSaid := fnExactPrintSheet.proved
end Go.Proofs.YtabpgjejedjliaaDoor
