-- Written by a program of this session (gprint.py), over the kit's print: not trusted: Lean checks it.
import Derived.Test.YtabpgjejedjliaaDoorGLPrintSheet0
import Derived.Test.YtabpgjejedjliaaDoorGLPrintSheet4
namespace Go.Proofs.YtabpgjejedjliaaDoor.GLPrintSheet
open Go.RowKit Go.Proofs.YtabpgjejedjliaaDoorW.PrintWords Go.Proofs.YtabpgjejedjliaaDoorW.PrintLast Go.Proofs.YtabpgjejedjliaaDoorW.PrintMore Go.Proofs.YtabpgjejedjliaaDoorW.PrintOwn
attribute [local go_sem] max2_int min2_int max_two min_two max_three min_three max_four min_four   -- for this text's walks alone
set_option linter.unusedVariables false
set_option linter.unusedSimpArgs false

/-! ### impl_GoodGoods: function 60 -/
def impl_GoodGoods.p (g x : S61) : Bool := x.f0.toList == g.f0.toList
def impl_GoodGoods.go : List (S61) → List (S61) → Bool
  | _, [] => true
  | pre, g :: suf => (nameB g.f0 && (decide (1 ≤ g.f1) && decide (g.f1 ≤ 100)) && !(pre.any (impl_GoodGoods.p g))) && impl_GoodGoods.go (pre ++ [g]) suf
def impl_GoodGoods.f (l0 : List (S61)) : Option (Bool) := some (impl_GoodGoods.go [] l0 && decide ((l0.length : Int) ≤ 12))
theorem impl_GoodGoods.within_eq (a lo hi : Int) : impl_within.f a lo hi = some (decide (lo ≤ a) && decide (a ≤ hi)) := by
  unfold impl_within.f
  by_cases h : a ≥ lo
  · rw [if_pos h]; simp [h]
  · rw [if_neg h]; simp [h]
theorem impl_GoodGoods.clo (g x : S61) (b : Nat) (w : World) (hb : b < w.heap.size) (hk : w.cell? ⟨b, 0, none⟩ = some (.string g.f0)) : PredB Tryd.prog 69 #[.pointer (some ⟨b, 0, none⟩)] #[.agg #[.string x.f0, .int .i64 x.f1]] (impl_GoodGoods.p g x) w := fun W hB => by
  have k0 : W.cell? ⟨b, 0, none⟩ = some (.string g.f0) := (hB.cell (p := ⟨b, 0, none⟩) hb).trans hk
  have k1 : (W.alloc (.cells #[.string x.f0, .int .i64 x.f1] 61)).cell? ⟨b, 0, none⟩ = some (.string g.f0) := ((below_alloc (Below.refl _ W) _).cell (p := ⟨b, 0, none⟩) (by have := hB.size; show b < W.heap.size; omega)).trans k0
  have HB := Aside0.mk hB
  clear hk hB k0
  show Calls Tryd.prog 69 #[.agg #[.string x.f0, .int .i64 x.f1], .pointer (some ⟨b, 0, none⟩)] W _
  have hu := Tryd.underlying61
  go_enter Tryd.func69, Tryd.ntmps69
  go_wp2
  go_ret
  exact ⟨by first | rfl | simp [impl_GoodGoods.p], by have := HB.out; exact this.alloc this.size _⟩
set_option maxHeartbeats 4000000 in
set_option maxRecDepth 100000 in
theorem impl_GoodGoods.calls (A0 : Option Addr) (c0 : Nat) (l0 : List (S61)) (r : Bool) (w : World) (hr0 : Kd.C k61 w A0 l0.length l0) (hc0 : l0.length ≤ c0) (h : impl_GoodGoods.f l0 = some r) :
    Calls Tryd.prog 60 #[.slice A0 l0.length c0] w fun e w' => e = .returned (.bool r) ∧ Below w.heap.size w w' := by
  obtain rfl := Option.some.inj h
  clear h
  have HR0 := Aside0.mk hr0
  have HC0 := Aside0.mk hc0
  have HM := Aside0.mk (Kd.C_max hr0)
  clear hr0 hc0
  have eg : ∀ args w, (callFunc 69 args).run Tryd.prog w = .ok (.enter 69 args) w := enters_of Tryd.func69 (by kernel_rfl) rfl
  have EG := Aside0.mk eg
  clear eg
  have hu := Tryd.underlying61
  go_enter Tryd.func60, Tryd.ntmps60
  go_wp2
  go_loopg [7] l0.length (fun gk v7 w' => ∃ (pre suf : List (S61)), v7 = .int .i64 (pre.length : Int) ∧ Aside0 (l0 = pre ++ suf ∧ suf.length ≤ gk) ∧ Aside0 (impl_GoodGoods.go [] l0 = impl_GoodGoods.go pre suf) ∧ Aside0 (Below w.heap.size w w'))
  case atStart => exact ⟨[], l0, rfl, ⟨rfl, Nat.le_refl _⟩, ⟨rfl⟩, ⟨Below.refl _ _⟩⟩
  case round =>
    obtain ⟨pre, suf, rfl, HE, HG, HB⟩ := hrel
    cases suf with
    | nil =>
      have hl : l0.length = pre.length := by rw [HE.out.1]; simp
      have d1 : decide ((pre.length : Int) < (l0.length : Int)) = false := decide_eq_false (by omega)
      have d2 : ((pre.length : Int) < (l0.length : Int)) = False := eq_false (by omega)
      have d3 : decide (pre.length < l0.length) = false := decide_eq_false (by omega)
      have d4 : (pre.length < l0.length) = False := eq_false (by omega)
      have HL := Aside0.mk hl
      clear hl
      go_wp2
      go_ret
      exact ⟨by rw [HG.out, impl_GoodGoods.go, Bool.true_and]; rfl, HB.out⟩
    | cons g suf =>
      have hl : l0.length = pre.length + suf.length + 1 := by rw [HE.out.1]; simp; omega
      have d1 : decide ((pre.length : Int) < (l0.length : Int)) = true := decide_eq_true (by omega)
      have d2 : ((pre.length : Int) < (l0.length : Int)) = True := eq_true (by omega)
      have d3 : decide (pre.length < l0.length) = true := decide_eq_true (by omega)
      have d4 : (pre.length < l0.length) = True := eq_true (by omega)
      have d5 : (0 ≤ (pre.length : Int)) = True := eq_true (by omega)
      have h0_ : 0 ≤ (pre.length : Int) := by omega
      have h1_ : (pre.length : Int) < (l0.length : Int) := by omega
      obtain ⟨ad, e, hx_0, hx_1⟩ := at_T61 HR0.out (pre.length : Int) h0_ h1_
      cases e
      replace hx_0 := (HB.out.cell (World.block_lt_of_cell? w _ hx_0)).trans hx_0
      replace hx_1 := (HB.out.cell (World.block_lt_of_cell? w _ hx_1)).trans hx_1
      have hgx : rd_T61 l0 (pre.length : Int) = g := by
        show l0.getD (pre.length : Int).toNat _ = g
        rw [HE.out.1]
        simp
      rw [hgx] at hx_0 hx_1
      simp only [Int.toNat_natCast] at hx_0 hx_1
      have HLEN := Aside0.mk hl
      clear hgx h0_ h1_ hl
      go_wp2_with ((with_reducible refine gate_dst (N := 4) rfl ?_); refine box_event ?hg (N := 4) ?hd (cs := #[.string ByteArray.empty, .int .i64 0]) (t := 61) ?hr ?_; (case hd => rfl); (case hg => rfl); (case hr => first | (go_simp; done) | (go_simp; rfl)); intro gb hgb wb hbox hb; have HBW := Aside0.mk (below_step HB.out hb); have HGB := Aside0.mk (show wr.heap.size ≤ gb from by rw [hgb]; exact Nat.le_refl _); have hz0 : wb.cell? ⟨gb, 0, none⟩ = some (.string ByteArray.empty) := (blk_cell hbox 0).trans rfl; have hz1 : wb.cell? ⟨gb, 1, none⟩ = some (.int .i64 0) := (blk_cell hbox 1).trans rfl; have hf0 := blk_frozen hbox 0; have hf1 := blk_frozen hbox 1; have HBK := Aside0.mk hbox; clear hbox hb hgb)
      have hge : w.heap.size ≤ gb := Nat.le_trans HB.out.size HGB.out
      have HGE := Aside0.mk hge
      clear hge
      obtain ⟨ws, hws⟩ : ∃ ws, ws = (wb.setCell ⟨gb, 0, none⟩ (.string g.f0)).setCell ⟨gb, 1, none⟩ (.int .i64 g.f1) := ⟨_, rfl⟩
      rw [← hws]
      have HBS := Aside0.mk (show Below w.heap.size w ws by rw [hws]; exact below_set (below_set HBW.out HGE.out) HGE.out)
      have HBK2 := Aside0.mk (show ws.heap[gb]? = some (.cells #[.string g.f0, .int .i64 g.f1] 61 (0, 0)) by rw [hws, blk_set (blk_set HBK.out 0 (.string g.f0)) 1 (.int .i64 g.f1)]; rfl)
      clear hws hz0 hz1 hf0 hf1 hx_0 hx_1 HBW HBK
      go_at_call 67
      refine (impl_isName.calls g.f0 (nameB g.f0) ws rfl).mono ?_
      rintro e w2 ⟨rfl, hb2⟩
      have HB2 := Aside0.mk (show Below w.heap.size w w2 from HBS.out.trans (hb2.mono HBS.out.size))
      have HBK3 := Aside0.mk (blk_below HBK2.out hb2)
      have k0 : w2.cell? ⟨gb, 0, none⟩ = some (.string g.f0) := (blk_cell HBK3.out 0).trans rfl
      have k1 : w2.cell? ⟨gb, 1, none⟩ = some (.int .i64 g.f1) := (blk_cell HBK3.out 1).trans rfl
      clear HBS HBK2 hb2
      cases hn : nameB g.f0 with
      | false =>
        have HN := Aside0.mk hn
        clear hn
        go_wp2_with fail
        go_ret
        exact ⟨by rw [HG.out, impl_GoodGoods.go, HN.out]; simp, HB2.out⟩
      | true =>
        have HN := Aside0.mk hn
        clear hn
        go_wp2_with fail
        have HWI := Aside0.mk (impl_GoodGoods.within_eq g.f1 1 100)
        cases hw : (decide (1 ≤ g.f1) && decide (g.f1 ≤ 100)) with
        | false =>
          rw [hw] at HWI
          have HV := Aside0.mk hw
          clear hw
          go_at_call 61
          refine (impl_within.calls _ _ _ false _ HWI.out).mono ?_
          rintro e w' ⟨rfl, ⟨nd, rfl⟩⟩
          go_wp2_with fail
          go_ret
          exact ⟨by rw [HG.out, impl_GoodGoods.go, HN.out, HV.out]; simp, pw_below_drewN HB2.out _⟩
        | true =>
          rw [hw] at HWI
          have HV := Aside0.mk hw
          clear hw
          have ht : l0.take pre.length = pre := by rw [HE.out.1]; simp
          have hct := Kd.C_take (m := pre.length) (Kd.C_below HR0.out HB2.out) (by have := HLEN.out; omega)
          rw [ht] at hct
          have HCT := Aside0.mk hct
          clear hct ht
          have c1 : decide ((pre.length : Int) ≤ (c0 : Int)) = true := decide_eq_true (by have := HLEN.out; have := HC0.out; omega)
          have c2 : ((pre.length : Int) ≤ (c0 : Int)) = True := eq_true (by have := HLEN.out; have := HC0.out; omega)
          have c3 : pre.length ≤ c0 := by have := HLEN.out; have := HC0.out; omega
          have c4 : decide (0 ≤ (pre.length : Int)) = true := decide_eq_true (by omega)
          go_at_call 61
          refine (impl_within.calls _ _ _ true _ HWI.out).mono ?_
          rintro e w' ⟨rfl, ⟨nd, rfl⟩⟩
          go_wp2_with fail
          go_at_call 68
          refine (impl_Good_68.any (some ad) c0 pre (impl_GoodGoods.p g) 69 #[.pointer (some ⟨gb, 0, none⟩)] EG.out (w2.drewN nd) (Kd.C_drewN HCT.out nd) (fun x _ => impl_GoodGoods.clo g x gb (w2.drewN nd) (blk_lt HBK3.out) k0)).mono ?_
          rintro e w3 ⟨rfl, hb3⟩
          have HB3 := Aside0.mk (show Below w.heap.size w w3 from (pw_below_drewN HB2.out nd).trans (hb3.mono HB2.out.size))
          clear hb3
          cases ha : pre.any (impl_GoodGoods.p g) with
          | true =>
            have HA := Aside0.mk ha
            clear ha
            go_wp2_with fail
            go_ret
            exact ⟨by rw [HG.out, impl_GoodGoods.go, HN.out, HV.out, HA.out]; simp, HB3.out⟩
          | false =>
            have HA := Aside0.mk ha
            clear ha
            go_wp2_with fail
            go_roundg suf.length
            case measure => have := HE.out.2; simp at this; omega
            case rel =>
              refine ⟨pre ++ [g], suf, by first | rfl | (congr 1; have := HLEN.out; have := HM.out; rw [List.length_append, List.length_singleton]; unfold wrap64; omega), ⟨by rw [HE.out.1]; simp, Nat.le_refl _⟩, ⟨?_⟩, HB3⟩
              rw [HG.out, impl_GoodGoods.go, HN.out, HV.out, HA.out]
              simp

end Go.Proofs.YtabpgjejedjliaaDoor.GLPrintSheet
