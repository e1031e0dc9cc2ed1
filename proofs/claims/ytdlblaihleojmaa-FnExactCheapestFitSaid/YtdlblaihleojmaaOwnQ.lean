-- Words for the cheapest fit: rows of n numbers in blocks of their own, beside a box. Not trusted: Lean checks it.
import Derived.Test.YtdlblaihleojmaaWMore
import Derived.Test.YtdlblaihleojmaaWFoot
import Derived.Test.YtdlblaihleojmaaWKept
namespace Go.Proofs.YtdlblaihleojmaaW.PrintOwn
set_option linter.unusedVariables false
set_option linter.unusedSimpArgs false
open Go.RowKit Go.Proofs.YtdlblaihleojmaaW.PrintWords Go.Proofs.YtdlblaihleojmaaW.PrintMore
def RI (w : World) (base n g c : Nat) (l : List Int) : Prop := Kd.R (Kd.int .i64) 3 w base (fun k => k = g) (.slice (some ⟨g, 0, none⟩) n c) l
def RB (w : World) (base n g c : Nat) (l : List Bool) : Prop := Kd.R Kd.bool 4 w base (fun k => k = g) (.slice (some ⟨g, 0, none⟩) n c) l
theorem RI.cell {w : World} {base n g c : Nat} {l : List Int} (h : RI w base n g c l) (x : Int) (h0 : 0 ≤ x) (h1 : x < (n : Int)) : w.cell? ⟨g, x.toNat, none⟩ = some (.int .i64 (rd l x)) ∧ w.frozen? ⟨g, x.toNat, none⟩ = false := Kd.R_celln 0 h x h0 h1
theorem RB.cell {w : World} {base n g c : Nat} {l : List Bool} (h : RB w base n g c l) (x : Int) (h0 : 0 ≤ x) (h1 : x < (n : Int)) : w.cell? ⟨g, x.toNat, none⟩ = some (.bool (rdOf false l x)) ∧ w.frozen? ⟨g, x.toNat, none⟩ = false := Kd.R_celln false h x h0 h1
theorem RI.len {w : World} {base n g c : Nat} {l : List Int} (h : RI w base n g c l) : n = l.length := (Kd.R_reads' h).1
theorem RI.far {w : World} {base n g c : Nat} {l : List Int} (h : RI w base n g c l) {p : Addr} (hp : g ≠ p.block) (u : Value) : RI (w.setCell p u) base n g c l := Kd.R_far h (fun k hk => by rw [hk]; exact hp) u
theorem RB.far {w : World} {base n g c : Nat} {l : List Bool} (h : RB w base n g c l) {p : Addr} (hp : g ≠ p.block) (u : Value) : RB (w.setCell p u) base n g c l := Kd.R_far h (fun k hk => by rw [hk]; exact hp) u
theorem RI.put {w : World} {base n g c : Nat} {l : List Int} (h : RI w base n g c l) (x v : Int) : RI (w.setCell ⟨g, x.toNat, none⟩ (.int .i64 v)) base n g c (l.set x.toNat v) := (Kd.R_putg h x v).1
theorem RB.put {w : World} {base n g c : Nat} {l : List Bool} (h : RB w base n g c l) (x : Int) (v : Bool) : RB (w.setCell ⟨g, x.toNat, none⟩ (.bool v)) base n g c (l.set x.toNat v) := (Kd.R_putg h x v).1
theorem nd7 {a b c d e f g : Nat} (h : [a, b, c, d, e, f, g].Nodup) : (a ≠ b ∧ a ≠ c ∧ a ≠ d ∧ a ≠ e ∧ a ≠ f ∧ a ≠ g) ∧ (b ≠ c ∧ b ≠ d ∧ b ≠ e ∧ b ≠ f ∧ b ≠ g) ∧ (c ≠ d ∧ c ≠ e ∧ c ≠ f ∧ c ≠ g) ∧ (d ≠ e ∧ d ≠ f ∧ d ≠ g) ∧ (e ≠ f ∧ e ≠ g) ∧ f ≠ g := by simpa using h
theorem nd7i {a b c d e f g : Nat} (h : (a ≠ b ∧ a ≠ c ∧ a ≠ d ∧ a ≠ e ∧ a ≠ f ∧ a ≠ g) ∧ (b ≠ c ∧ b ≠ d ∧ b ≠ e ∧ b ≠ f ∧ b ≠ g) ∧ (c ≠ d ∧ c ≠ e ∧ c ≠ f ∧ c ≠ g) ∧ (d ≠ e ∧ d ≠ f ∧ d ≠ g) ∧ (e ≠ f ∧ e ≠ g) ∧ f ≠ g) : [a, b, c, d, e, f, g].Nodup := by simpa using h
/-- The blocks and the rooms of the rows. -/
structure Gs where
  gL : Nat
  cL : Nat
  gB : Nat
  cB : Nat
  gO : Nat
  cO : Nat
  gl : Nat
  cl : Nat
  gf : Nat
  cf : Nat
  gg : Nat
  cg : Nat
  gb : Nat
/-- They are apart, and the call's own. -/
structure Ap (w0 w : World) (P : Nat → Prop) (G : Gs) : Prop where
  nd : [G.gL, G.gB, G.gO, G.gl, G.gf, G.gg, G.gb].Nodup
  eL : w0.heap.size ≤ G.gL ∧ (P G.gL ∨ w.heap.size ≤ G.gL)
  eB : w0.heap.size ≤ G.gB ∧ (P G.gB ∨ w.heap.size ≤ G.gB)
  eO : w0.heap.size ≤ G.gO ∧ (P G.gO ∨ w.heap.size ≤ G.gO)
  el : w0.heap.size ≤ G.gl ∧ (P G.gl ∨ w.heap.size ≤ G.gl)
  ef : w0.heap.size ≤ G.gf ∧ (P G.gf ∨ w.heap.size ≤ G.gf)
  eg : w0.heap.size ≤ G.gg ∧ (P G.gg ∨ w.heap.size ≤ G.gg)
/-- The rows as they lie. -/
structure St (w0 w : World) (P : Nat → Prop) (n : Nat) (G : Gs) (cs : Array Value) (t : TypeId) (L B O ls fr : List Int) (gn : List Bool) (w' : World) : Prop where
  rL : RI w' w0.heap.size n G.gL G.cL L
  rB : RI w' w0.heap.size n G.gB G.cB B
  rO : RI w' w0.heap.size n G.gO G.cO O
  rl : RI w' w0.heap.size n G.gl G.cl ls
  rf : RI w' w0.heap.size n G.gf G.cf fr
  rg : RB w' w0.heap.size n G.gg G.cg gn
  bk : w'.heap[G.gb]? = some (.cells cs t (0, 0))
  bl : Below w0.heap.size w0 w'
  kp : Kept w w' P
section
variable {w0 w w' : World} {P : Nat → Prop} {n : Nat} {G : Gs} {cs : Array Value} {t : TypeId} {L B O ls fr : List Int} {gn : List Bool}
theorem St.below {w2 : World} (h : St w0 w P n G cs t L B O ls fr gn w') (hb : Below w'.heap.size w' w2) : St w0 w P n G cs t L B O ls fr gn w2 :=
  ⟨Kd.R_below h.rL hb, Kd.R_below h.rB hb, Kd.R_below h.rO hb, Kd.R_below h.rl hb, Kd.R_below h.rf hb, Kd.R_below h.rg hb, blk_below h.bk hb, below_step h.bl hb, h.kp.below hb⟩
theorem St.drewN (h : St w0 w P n G cs t L B O ls fr gn w') (m : Nat) : St w0 w P n G cs t L B O ls fr gn (w'.drewN m) := h.below (pw_below_drewN (Below.refl _ _) m)
theorem St.at_ {w2 : World} (h : St w0 w P n G cs t L B O ls fr gn w') {m : Nat} (e : w'.drewN m = w2) : St w0 w P n G cs t L B O ls fr gn w2 := e ▸ h.drewN m
theorem St.sL (h : St w0 w P n G cs t L B O ls fr gn w') (a : Ap w0 w P G) (x v : Int) : St w0 w P n G cs t (L.set x.toNat v) B O ls fr gn (w'.setCell ⟨G.gL, x.toNat, none⟩ (.int .i64 v)) := by
  obtain ⟨⟨ab, ac, ad, ae, af, ag⟩, ⟨bc, bd, be, bf, bg⟩, ⟨cd, ce, cf, cg⟩, ⟨de, df, dg⟩, ⟨ef, eg⟩, fg⟩ := nd7 a.nd
  exact ⟨h.rL.put x v, h.rB.far (Ne.symm ab) _, h.rO.far (Ne.symm ac) _, h.rl.far (Ne.symm ad) _, h.rf.far (Ne.symm ae) _, h.rg.far (Ne.symm af) _, blk_far h.bk (Ne.symm ag) _, below_set h.bl a.eL.1, h.kp.setCell a.eL.2 _⟩
theorem St.sB (h : St w0 w P n G cs t L B O ls fr gn w') (a : Ap w0 w P G) (x v : Int) : St w0 w P n G cs t L (B.set x.toNat v) O ls fr gn (w'.setCell ⟨G.gB, x.toNat, none⟩ (.int .i64 v)) := by
  obtain ⟨⟨ab, ac, ad, ae, af, ag⟩, ⟨bc, bd, be, bf, bg⟩, ⟨cd, ce, cf, cg⟩, ⟨de, df, dg⟩, ⟨ef, eg⟩, fg⟩ := nd7 a.nd
  exact ⟨h.rL.far ab _, h.rB.put x v, h.rO.far (Ne.symm bc) _, h.rl.far (Ne.symm bd) _, h.rf.far (Ne.symm be) _, h.rg.far (Ne.symm bf) _, blk_far h.bk (Ne.symm bg) _, below_set h.bl a.eB.1, h.kp.setCell a.eB.2 _⟩
theorem St.sO (h : St w0 w P n G cs t L B O ls fr gn w') (a : Ap w0 w P G) (x v : Int) : St w0 w P n G cs t L B (O.set x.toNat v) ls fr gn (w'.setCell ⟨G.gO, x.toNat, none⟩ (.int .i64 v)) := by
  obtain ⟨⟨ab, ac, ad, ae, af, ag⟩, ⟨bc, bd, be, bf, bg⟩, ⟨cd, ce, cf, cg⟩, ⟨de, df, dg⟩, ⟨ef, eg⟩, fg⟩ := nd7 a.nd
  exact ⟨h.rL.far ac _, h.rB.far bc _, h.rO.put x v, h.rl.far (Ne.symm cd) _, h.rf.far (Ne.symm ce) _, h.rg.far (Ne.symm cf) _, blk_far h.bk (Ne.symm cg) _, below_set h.bl a.eO.1, h.kp.setCell a.eO.2 _⟩
theorem St.sl (h : St w0 w P n G cs t L B O ls fr gn w') (a : Ap w0 w P G) (x v : Int) : St w0 w P n G cs t L B O (ls.set x.toNat v) fr gn (w'.setCell ⟨G.gl, x.toNat, none⟩ (.int .i64 v)) := by
  obtain ⟨⟨ab, ac, ad, ae, af, ag⟩, ⟨bc, bd, be, bf, bg⟩, ⟨cd, ce, cf, cg⟩, ⟨de, df, dg⟩, ⟨ef, eg⟩, fg⟩ := nd7 a.nd
  exact ⟨h.rL.far ad _, h.rB.far bd _, h.rO.far cd _, h.rl.put x v, h.rf.far (Ne.symm de) _, h.rg.far (Ne.symm df) _, blk_far h.bk (Ne.symm dg) _, below_set h.bl a.el.1, h.kp.setCell a.el.2 _⟩
theorem St.sf (h : St w0 w P n G cs t L B O ls fr gn w') (a : Ap w0 w P G) (x v : Int) : St w0 w P n G cs t L B O ls (fr.set x.toNat v) gn (w'.setCell ⟨G.gf, x.toNat, none⟩ (.int .i64 v)) := by
  obtain ⟨⟨ab, ac, ad, ae, af, ag⟩, ⟨bc, bd, be, bf, bg⟩, ⟨cd, ce, cf, cg⟩, ⟨de, df, dg⟩, ⟨ef, eg⟩, fg⟩ := nd7 a.nd
  exact ⟨h.rL.far ae _, h.rB.far be _, h.rO.far ce _, h.rl.far de _, h.rf.put x v, h.rg.far (Ne.symm ef) _, blk_far h.bk (Ne.symm eg) _, below_set h.bl a.ef.1, h.kp.setCell a.ef.2 _⟩
theorem St.sg (h : St w0 w P n G cs t L B O ls fr gn w') (a : Ap w0 w P G) (x : Int) (v : Bool) : St w0 w P n G cs t L B O ls fr (gn.set x.toNat v) (w'.setCell ⟨G.gg, x.toNat, none⟩ (.bool v)) := by
  obtain ⟨⟨ab, ac, ad, ae, af, ag⟩, ⟨bc, bd, be, bf, bg⟩, ⟨cd, ce, cf, cg⟩, ⟨de, df, dg⟩, ⟨ef, eg⟩, fg⟩ := nd7 a.nd
  exact ⟨h.rL.far af _, h.rB.far bf _, h.rO.far cf _, h.rl.far df _, h.rf.far ef _, h.rg.put x v, blk_far h.bk (Ne.symm fg) _, below_set h.bl a.eg.1, h.kp.setCell a.eg.2 _⟩
end
/-! what the two places reckon -/
def seenV (C : List (List Int)) (L B : List Int) (own x : Int) : Int := wrap64 ((wrap64 ((rd (C.getD own.toNat ([] : List Int)) x) - (rd L own))) - (rd B x))
def pickB (ls : List Int) (x b : Int) : Int := if b < 0 then x else if rd ls x < rd ls b then x else b
def scanS (C : List (List Int)) (L B : List Int) (gn : List Bool) (last own x : Int) (s : List Int × List Int × Int) : List Int × List Int × Int :=
  if rdOf false gn x = true then s
  else if seenV C L B own x < rd s.1 x then (s.1.set x.toNat (seenV C L B own x), s.2.1.set x.toNat last, pickB (s.1.set x.toNat (seenV C L B own x)) x s.2.2)
  else (s.1, s.2.1, pickB s.1 x s.2.2)
def scanF (C : List (List Int)) (L B : List Int) (gn : List Bool) (last own : Int) : Nat → Int → List Int × List Int × Int → List Int × List Int × Int
  | 0, _, s => s
  | j + 1, x, s => scanF C L B gn last own j (x + 1) (scanS C L B gn last own x s)
def addF (by_ : Int) (L : List Int) (wy : List Int) : List Int := wy.foldl (fun L i => L.set i.toNat (wrap64 ((rd L i) + by_))) L
def binS (by_ : Int) (gn : List Bool) (x : Int) (s : List Int × List Int) : List Int × List Int :=
  if rdOf false gn x = true then (s.1, s.2.set x.toNat (wrap64 ((rd s.2 x) - by_))) else (s.1.set x.toNat (wrap64 ((rd s.1 x) - by_)), s.2)
def binF (by_ : Int) (gn : List Bool) : Nat → Int → List Int × List Int → List Int × List Int
  | 0, _, s => s
  | j + 1, x, s => binF by_ gn j (x + 1) (binS by_ gn x s)
def backF (fr : List Int) (ld : Int) : Nat → Int → List Int → Option (List Int)
  | 0, _, _ => none
  | j + 1, b, O => if b < 0 then some O else backF fr ld j (rd fr b) (O.set b.toNat (if 0 ≤ rd fr b then rd O (rd fr b) else ld))
/-- The rows have n numbers each, the loads' bins are bins. -/
def GoodP (C : List (List Int)) (L B O : List Int) (ld : Int) : Prop := (C.length ≤ 1000 ∧ L.length = C.length ∧ B.length = C.length ∧ O.length = C.length) ∧ (0 ≤ ld ∧ ld < (C.length : Int)) ∧ (∀ r ∈ C, r.length = C.length) ∧ (∀ o ∈ O, o < (C.length : Int))
instance (C : List (List Int)) (L B O : List Int) (ld : Int) : Decidable (GoodP C L B O ld) := by unfold GoodP; infer_instance
theorem rd_in {l : List Int} {p : Int → Prop} (h : ∀ x ∈ l, p x) {i : Int} (h0 : 0 ≤ i) (h1 : i < (l.length : Int)) : p (rd l i) := by
  have hi : i.toNat < l.length := by omega
  have e : rd l i = l[i.toNat] := by
    show rdOf 0 l i = _
    simp only [rdOf, List.getD_eq_getElem?_getD, List.getElem?_eq_getElem hi, Option.getD_some]
  rw [e]
  exact h _ (List.getElem_mem hi)
theorem mem_set {l : List Int} {p : Int → Prop} (h : ∀ x ∈ l, p x) {v : Int} (hv : p v) (i : Nat) : ∀ x ∈ l.set i v, p x := fun x hx => by
  rcases List.mem_or_eq_of_mem_set hx with q | q
  · exact h x q
  · rw [q]; exact hv
theorem pickB_ge (ls : List Int) {x b : Int} (hx : 0 ≤ x) : 0 ≤ pickB ls x b := by
  unfold pickB
  split
  · exact hx
  · split <;> omega
theorem pickB_lt (ls : List Int) {x b n : Int} (hx : x < n) (hb : b < n) : pickB ls x b < n := by
  unfold pickB
  split
  · exact hx
  · split <;> assumption
/-- What a round over the bins leaves: rows of n, the best one a bin or none. -/
def Scan (n : Nat) (s : List Int × List Int × Int) : Prop := s.1.length = n ∧ s.2.1.length = n ∧ (-1 ≤ s.2.2 ∧ s.2.2 < (n : Int)) ∧ ∀ x ∈ s.2.1, x < (n : Int)
theorem scanS_ok (C : List (List Int)) (L B : List Int) (gn : List Bool) (last own : Int) (n : Nat) (hl : last < (n : Int)) {x : Int} (h0 : 0 ≤ x) (h1 : x < (n : Int)) {s : List Int × List Int × Int} (h : Scan n s) : Scan n (scanS C L B gn last own x s) := by
  obtain ⟨a, b, ⟨c, d⟩, e⟩ := h
  unfold scanS
  split
  · exact ⟨a, b, ⟨c, d⟩, e⟩
  · split
    · exact ⟨by simpa using a, by simpa using b, ⟨show -1 ≤ pickB (s.1.set x.toNat (seenV C L B own x)) x s.2.2 by have := pickB_ge (s.1.set x.toNat (seenV C L B own x)) (b := s.2.2) h0; omega, pickB_lt _ h1 d⟩, mem_set e hl _⟩
    · exact ⟨a, b, ⟨show -1 ≤ pickB s.1 x s.2.2 by have := pickB_ge s.1 (b := s.2.2) h0; omega, pickB_lt _ h1 d⟩, e⟩
theorem scanF_ok (C : List (List Int)) (L B : List Int) (gn : List Bool) (last own : Int) (n : Nat) (hl : last < (n : Int)) : ∀ (j : Nat) (x : Int) (s : List Int × List Int × Int), 0 ≤ x → x + j = (n : Int) → Scan n s → Scan n (scanF C L B gn last own j x s)
  | 0, _, _, _, _, h => h
  | j + 1, x, s, h0, hj, h => scanF_ok C L B gn last own n hl j (x + 1) _ (by omega) (by omega) (scanS_ok C L B gn last own n hl h0 (by omega) h)
/-- Blocks with colours: what is made next gets colour c. -/
theorem col_below {α : Type} {d : Kd α} {e base : Nat} {w w1 : World} {col : Nat → Nat} {j : Nat} {v : Value} {xs : List α} (h : d.R e w base (fun k_ => col k_ = j) v xs) (hb : Below w.heap.size w w1) (c : Nat) : d.R e w1 base (fun k_ => (if w.heap.size ≤ k_ then c else col k_) = j) v xs :=
  Kd.R_below (Kd.R_mono (Kd.R_bound h) (fun k hk => by
    show (if w.heap.size ≤ k then c else col k) = j
    rw [if_neg (by have := hk.2.2.1; omega)]
    exact hk.1)) hb
theorem col_new {α : Type} {d : Kd α} {e base : Nat} {w w1 : World} {col : Nat → Nat} {v : Value} {xs : List α} (h : d.R e w1 w.heap.size (fun _ => True) v xs) (hle : base ≤ w.heap.size) (c : Nat) : d.R e w1 base (fun k_ => (if w.heap.size ≤ k_ then c else col k_) = c) v xs :=
  Kd.R_lower (Kd.R_mono (Kd.R_bound h) (fun k hk => if_pos hk.2.1)) hle
def Gs.all (G : Gs) : List Nat := [G.gL, G.gB, G.gO, G.gl, G.gf, G.gg, G.gb]
/-- The blocks in which a row beside them may lie. -/
def Pw (w : World) (G : Gs) : Nat → Prop := fun k => w.heap.size ≤ k ∧ k ∉ G.all
theorem RI.own {w : World} {base n g c : Nat} {l : List Int} (h : RI w base n g c l) : g < w.heap.size := Kd.R_lt h g (by simp [Value.ownBlock])
theorem RB.own {w : World} {base n g c : Nat} {l : List Bool} (h : RB w base n g c l) : g < w.heap.size := Kd.R_lt h g (by simp [Value.ownBlock])
section
variable {w0 w w' : World} {P : Nat → Prop} {n : Nat} {G : Gs} {cs : Array Value} {t : TypeId} {L B O ls fr : List Int} {gn : List Bool}
theorem St.drew (h : St w0 w P n G cs t L B O ls fr gn w') : St w0 w P n G cs t L B O ls fr gn w'.drew := h.below (below_drew1 (Below.refl _ _))
theorem St.lens (h : St w0 w P n G cs t L B O ls fr gn w') : L.length = n ∧ B.length = n ∧ O.length = n ∧ ls.length = n ∧ fr.length = n ∧ gn.length = n := ⟨h.rL.len.symm, h.rB.len.symm, h.rO.len.symm, h.rl.len.symm, h.rf.len.symm, (Kd.R_reads' h.rg).1.symm⟩
theorem St.fresh (h : St w0 w P n G cs t L B O ls fr gn w') : ∀ k, w'.heap.size ≤ k → Pw w G k := fun k hk => by
  refine ⟨Nat.le_trans h.kp.1 hk, fun hm => ?_⟩
  have a1 := h.rL.own
  have a2 := h.rB.own
  have a3 := h.rO.own
  have a4 := h.rl.own
  have a5 := h.rf.own
  have a6 := h.rg.own
  have a7 := blk_lt h.bk
  simp only [Gs.all, List.mem_cons, List.not_mem_nil, or_false] at hm
  rcases hm with rfl | rfl | rfl | rfl | rfl | rfl | rfl <;> omega
theorem St.grown {w2 : World} {v : Value} (h : St w0 w P n G cs t L B O ls fr gn w') (hg : w'.grownBy w2 v.ownBlock) (hv : ∀ k, v.ownBlock = some k → Pw w G k) (hb : Below w0.heap.size w0 w2) : St w0 w P n G cs t L B O ls fr gn w2 := by
  have ne : ∀ g, g ∈ G.all → some g ≠ v.ownBlock := fun g hg e => (hv g e.symm).2 hg
  have m : ∀ g, g ∈ G.all → ∀ k, k = g → some k ≠ v.ownBlock := fun g hg k hk => by rw [hk]; exact ne g hg
  exact ⟨Kd.R_grown h.rL hg (m _ (by simp [Gs.all])), Kd.R_grown h.rB hg (m _ (by simp [Gs.all])), Kd.R_grown h.rO hg (m _ (by simp [Gs.all])), Kd.R_grown h.rl hg (m _ (by simp [Gs.all])), Kd.R_grown h.rf hg (m _ (by simp [Gs.all])), Kd.R_grown h.rg hg (m _ (by simp [Gs.all])), blk_grown h.bk hg (ne _ (by simp [Gs.all])), hb, Kept.of_grown hg h.kp (fun k e => Or.inr (hv k e).1)⟩
/-- A row beside the rows: the way. -/
def RW (w0 w : World) (G : Gs) (w' : World) (A : Option Addr) (c : Nat) (wy : List Int) : Prop := Kd.R (Kd.int .i64) 3 w' w0.heap.size (Pw w G) (.slice A wy.length c) wy
theorem RW.far {A : Option Addr} {c : Nat} {wy : List Int} (h : RW w0 w G w' A c wy) {p : Addr} (hp : p.block ∈ G.all) (u : Value) : RW w0 w G (w'.setCell p u) A c wy := Kd.R_far h (fun k hk e => hk.2 (e ▸ hp)) u
theorem RW.drew {A : Option Addr} {c : Nat} {wy : List Int} (h : RW w0 w G w' A c wy) : RW w0 w G w'.drew A c wy := Kd.R_drew h
end
theorem drop_rd (l : List Int) {x : Int} (h0 : 0 ≤ x) (h1 : x < (l.length : Int)) : l.drop x.toNat = rd l x :: l.drop (x + 1).toNat := by
  have hi : x.toNat < l.length := by omega
  have e : rd l x = l[x.toNat] := by
    show rdOf 0 l x = _
    simp only [rdOf, List.getD_eq_getElem?_getD, List.getElem?_eq_getElem hi, Option.getD_some]
  rw [e, List.drop_eq_getElem_cons hi, show (x + 1).toNat = x.toNat + 1 by omega]
theorem rd_mem {C : List (List Int)} {i : Int} (h0 : 0 ≤ i) (h1 : i < (C.length : Int)) : C.getD i.toNat ([] : List Int) ∈ C := by
  have hi : i.toNat < C.length := by omega
  rw [List.getD_eq_getElem?_getD, List.getElem?_eq_getElem hi]
  exact List.getElem_mem hi
def outF (C : List (List Int)) (O : List Int) (n : Nat) : Nat → List Int → List Int → List Bool → List Int → Int → List Int → List Int → Option (List Int × List Int × List Int × Int)
  | 0, _, _, _, _, _, _, _ => none
  | j + 1, ls, fr, gn, wy, last, L, B => if 0 ≤ (scanF C L B gn last (rd wy ((wy.length : Int) - 1)) n 0 (ls, fr, -1)).2.2 then (if rd O (scanF C L B gn last (rd wy ((wy.length : Int) - 1)) n 0 (ls, fr, -1)).2.2 < 0 then some (addF (rd (scanF C L B gn last (rd wy ((wy.length : Int) - 1)) n 0 (ls, fr, -1)).1 (scanF C L B gn last (rd wy ((wy.length : Int) - 1)) n 0 (ls, fr, -1)).2.2) L wy, (binF (rd (scanF C L B gn last (rd wy ((wy.length : Int) - 1)) n 0 (ls, fr, -1)).1 (scanF C L B gn last (rd wy ((wy.length : Int) - 1)) n 0 (ls, fr, -1)).2.2) gn n 0 ((scanF C L B gn last (rd wy ((wy.length : Int) - 1)) n 0 (ls, fr, -1)).1, B)).2, (scanF C L B gn last (rd wy ((wy.length : Int) - 1)) n 0 (ls, fr, -1)).2.1, (scanF C L B gn last (rd wy ((wy.length : Int) - 1)) n 0 (ls, fr, -1)).2.2) else outF C O n j (binF (rd (scanF C L B gn last (rd wy ((wy.length : Int) - 1)) n 0 (ls, fr, -1)).1 (scanF C L B gn last (rd wy ((wy.length : Int) - 1)) n 0 (ls, fr, -1)).2.2) gn n 0 ((scanF C L B gn last (rd wy ((wy.length : Int) - 1)) n 0 (ls, fr, -1)).1, B)).1 (scanF C L B gn last (rd wy ((wy.length : Int) - 1)) n 0 (ls, fr, -1)).2.1 (gn.set (scanF C L B gn last (rd wy ((wy.length : Int) - 1)) n 0 (ls, fr, -1)).2.2.toNat true) (wy ++ [rd O (scanF C L B gn last (rd wy ((wy.length : Int) - 1)) n 0 (ls, fr, -1)).2.2]) (scanF C L B gn last (rd wy ((wy.length : Int) - 1)) n 0 (ls, fr, -1)).2.2 (addF (rd (scanF C L B gn last (rd wy ((wy.length : Int) - 1)) n 0 (ls, fr, -1)).1 (scanF C L B gn last (rd wy ((wy.length : Int) - 1)) n 0 (ls, fr, -1)).2.2) L wy) (binF (rd (scanF C L B gn last (rd wy ((wy.length : Int) - 1)) n 0 (ls, fr, -1)).1 (scanF C L B gn last (rd wy ((wy.length : Int) - 1)) n 0 (ls, fr, -1)).2.2) gn n 0 ((scanF C L B gn last (rd wy ((wy.length : Int) - 1)) n 0 (ls, fr, -1)).1, B)).2) else none
/-- One round of it, with what it makes named. -/
theorem outF_eq (C : List (List Int)) (O : List Int) (n j : Nat) (ls fr : List Int) (gn : List Bool) (wy : List Int) (last : Int) (L B : List Int) {S : List Int × List Int × Int} (hS : scanF C L B gn last (rd wy ((wy.length : Int) - 1)) n 0 (ls, fr, -1) = S) {by_ : Int} (hb : rd S.1 S.2.2 = by_) {Q : List Int × List Int} (hQ : binF by_ gn n 0 (S.1, B) = Q) {L' : List Int} (hL : addF by_ L wy = L') :
    outF C O n (j + 1) ls fr gn wy last L B = if 0 ≤ S.2.2 then (if rd O S.2.2 < 0 then some (L', Q.2, S.2.1, S.2.2) else outF C O n j Q.1 S.2.1 (gn.set S.2.2.toNat true) (wy ++ [rd O S.2.2]) S.2.2 L' Q.2) else none := by
  subst hS hb hQ hL
  rfl
/-! the reference's way -/
def scan1S (C : List (List Int)) (L B : List Int) (gn : List Bool) (last own x : Int) (s : List Int × List Int) : List Int × List Int :=
  if rdOf false gn x = true then s
  else if seenV C L B own x < rd s.1 x then (s.1.set x.toNat (seenV C L B own x), s.2.set x.toNat last)
  else s
def scan1F (C : List (List Int)) (L B : List Int) (gn : List Bool) (last own : Int) : Nat → Int → List Int × List Int → List Int × List Int
  | 0, _, s => s
  | j + 1, x, s => scan1F C L B gn last own j (x + 1) (scan1S C L B gn last own x s)
def bestF (ls : List Int) (gn : List Bool) : Nat → Int → Int → Int
  | 0, _, b => b
  | j + 1, x, b => bestF ls gn j (x + 1) (if rdOf false gn x = true then b else pickB ls x b)
def adjS (by_ : Int) (gn : List Bool) (O : List Int) (x : Int) (s : List Int × List Int × List Int) : List Int × List Int × List Int :=
  if rdOf false gn x = true then (s.1.set (rd O x).toNat (wrap64 ((rd s.1 (rd O x)) + by_)), s.2.1.set x.toNat (wrap64 ((rd s.2.1 x) - by_)), s.2.2)
  else (s.1, s.2.1, s.2.2.set x.toNat (wrap64 ((rd s.2.2 x) - by_)))
def adjF (by_ : Int) (gn : List Bool) (O : List Int) : Nat → Int → List Int × List Int × List Int → List Int × List Int × List Int
  | 0, _, s => s
  | j + 1, x, s => adjF by_ gn O j (x + 1) (adjS by_ gn O x s)
def atV (O : List Int) (ld last : Int) : Int := if 0 ≤ last then rd O last else ld
def outS (C : List (List Int)) (O : List Int) (n : Nat) (ld : Int) : Nat → List Int → List Int → List Bool → Int → List Int → List Int → Option (List Int × List Int × List Int × Int)
  | 0, _, _, _, _, _, _ => none
  | j + 1, ls, fr, gn, last, L, B =>
    if atV O ld last < 0 then some (L, B, fr, last)
    else if 0 ≤ bestF (scan1F C L B gn last (atV O ld last) n 0 (ls, fr)).1 gn n 0 (-1) then
      outS C O n ld j (adjF (rd (scan1F C L B gn last (atV O ld last) n 0 (ls, fr)).1 (bestF (scan1F C L B gn last (atV O ld last) n 0 (ls, fr)).1 gn n 0 (-1))) gn O n 0 (L.set ld.toNat (wrap64 ((rd L ld) + rd (scan1F C L B gn last (atV O ld last) n 0 (ls, fr)).1 (bestF (scan1F C L B gn last (atV O ld last) n 0 (ls, fr)).1 gn n 0 (-1)))), B, (scan1F C L B gn last (atV O ld last) n 0 (ls, fr)).1)).2.2 (scan1F C L B gn last (atV O ld last) n 0 (ls, fr)).2 (gn.set (bestF (scan1F C L B gn last (atV O ld last) n 0 (ls, fr)).1 gn n 0 (-1)).toNat true) (bestF (scan1F C L B gn last (atV O ld last) n 0 (ls, fr)).1 gn n 0 (-1)) (adjF (rd (scan1F C L B gn last (atV O ld last) n 0 (ls, fr)).1 (bestF (scan1F C L B gn last (atV O ld last) n 0 (ls, fr)).1 gn n 0 (-1))) gn O n 0 (L.set ld.toNat (wrap64 ((rd L ld) + rd (scan1F C L B gn last (atV O ld last) n 0 (ls, fr)).1 (bestF (scan1F C L B gn last (atV O ld last) n 0 (ls, fr)).1 gn n 0 (-1)))), B, (scan1F C L B gn last (atV O ld last) n 0 (ls, fr)).1)).1 (adjF (rd (scan1F C L B gn last (atV O ld last) n 0 (ls, fr)).1 (bestF (scan1F C L B gn last (atV O ld last) n 0 (ls, fr)).1 gn n 0 (-1))) gn O n 0 (L.set ld.toNat (wrap64 ((rd L ld) + rd (scan1F C L B gn last (atV O ld last) n 0 (ls, fr)).1 (bestF (scan1F C L B gn last (atV O ld last) n 0 (ls, fr)).1 gn n 0 (-1)))), B, (scan1F C L B gn last (atV O ld last) n 0 (ls, fr)).1)).2.1
    else none
theorem outS_eq (C : List (List Int)) (O : List Int) (n : Nat) (ld : Int) (j : Nat) (ls fr : List Int) (gn : List Bool) (last : Int) (L B : List Int) {a : Int} (ha : atV O ld last = a) {S : List Int × List Int} (hS : scan1F C L B gn last a n 0 (ls, fr) = S) {b : Int} (hb : bestF S.1 gn n 0 (-1) = b) {by_ : Int} (hy : rd S.1 b = by_) {A : List Int × List Int × List Int} (hA : adjF by_ gn O n 0 (L.set ld.toNat (wrap64 ((rd L ld) + by_)), B, S.1) = A) :
    outS C O n ld (j + 1) ls fr gn last L B = if a < 0 then some (L, B, fr, last) else if 0 ≤ b then outS C O n ld j A.2.2 S.2 (gn.set b.toNat true) b A.1 A.2.1 else none := by
  subst ha hS hb hy hA
  rfl
theorem scan1S_ok (C : List (List Int)) (L B : List Int) (gn : List Bool) (last own : Int) (n : Nat) (hl : last < (n : Int)) (x : Int) {s : List Int × List Int} (h : ∀ y ∈ s.2, y < (n : Int)) : ∀ y ∈ (scan1S C L B gn last own x s).2, y < (n : Int) := by
  unfold scan1S
  split
  · exact h
  · split
    · exact mem_set h hl _
    · exact h
theorem scan1F_ok (C : List (List Int)) (L B : List Int) (gn : List Bool) (last own : Int) (n : Nat) (hl : last < (n : Int)) : ∀ (j : Nat) (x : Int) (s : List Int × List Int), (∀ y ∈ s.2, y < (n : Int)) → ∀ y ∈ (scan1F C L B gn last own j x s).2, y < (n : Int)
  | 0, _, _, h => h
  | j + 1, x, s, h => scan1F_ok C L B gn last own n hl j (x + 1) _ (scan1S_ok C L B gn last own n hl x h)
theorem bestF_lt (ls : List Int) (gn : List Bool) (n : Nat) : ∀ (j : Nat) (x b : Int), x + j = (n : Int) → b < (n : Int) → bestF ls gn j x b < (n : Int)
  | 0, _, _, _, h => h
  | j + 1, x, b, hj, h => by
    rw [bestF]
    refine bestF_lt ls gn n j (x + 1) _ (by omega) ?_
    split
    · exact h
    · exact pickB_lt _ (by omega) h
/-- A row that is filled up to x. -/
def fillF (n : Nat) (x a : Int) : List Int := List.replicate x.toNat a ++ List.replicate (n - x.toNat) 0
theorem fill_0 (n : Nat) (a : Int) : fillF n 0 a = List.replicate n 0 := by simp [fillF]
theorem fill_n (n : Nat) (a : Int) {x : Int} (h : x = (n : Int)) : fillF n x a = List.replicate n a := by
  subst h
  simp [fillF]
theorem fill_set (n : Nat) (a : Int) {x : Int} (h0 : 0 ≤ x) (h1 : x < (n : Int)) : (fillF n x a).set x.toNat a = fillF n (x + 1) a := by
  unfold fillF
  rw [List.set_append_right _ _ (by simp), List.length_replicate, Nat.sub_self, show n - x.toNat = (n - (x + 1).toNat) + 1 by omega, List.replicate_succ, List.set_cons_zero, show (x + 1).toNat = x.toNat + 1 by omega, List.replicate_succ', List.append_assoc]
  rfl
theorem RI.low {w : World} {base n g c : Nat} {l : List Int} (h : RI w base n g c l) (hn : 1 ≤ n) : base ≤ g := by
  have hl := h.len
  subst hl
  obtain ⟨g', c', e, h1, _⟩ := Kd.R_form h (by omega)
  cases e
  exact h1
/-- What the reference's place asks. -/
def seekF (C : List (List Int)) (L B O : List Int) (ld : Int) : Option (List Int × List Int × List Int) :=
  if GoodP C L B O ld then (outS C O C.length ld (C.length + 2) (List.replicate C.length 1099511627776) (List.replicate C.length (-1)) (List.replicate C.length false) (-1) L B).bind fun s => (backF s.2.2.1 ld (C.length + 1) s.2.2.2 O).bind fun O' => some (s.1, s.2.1, O') else none
theorem rep_false (n : Nat) (x : Int) : rdOf false (List.replicate n false) x = false := by
  simp only [rdOf, List.getD_eq_getElem?_getD, List.getElem?_replicate]
  split <;> rfl
theorem gone_set {gn : List Bool} {b x : Int} (h0 : 0 ≤ b) (h1 : 0 ≤ x) (h : rdOf false (gn.set b.toNat true) x = true) : x = b ∨ rdOf false gn x = true := by
  by_cases e : x = b
  · exact .inl e
  · refine .inr ?_
    rw [← h]
    simp only [rdOf, List.getD_eq_getElem?_getD, List.getElem?_set_ne (show b.toNat ≠ x.toNat by omega)]
/-! the reference's fit: its box, its rows -/
structure Fit (w : World) (n : Nat) (A0 : Option Addr) (c0 gr gb gL cL gB cB : Nat) (L B : List Int) (v : Value) (w' : World) : Prop where
  rL : RI w' w.heap.size n gL cL L
  rB : RI w' w.heap.size n gB cB B
  bk : w'.heap[gb]? = some (.cells #[.slice A0 n c0, .slice (some ⟨gL, 0, none⟩) n cL, .slice (some ⟨gB, 0, none⟩) n cB, v] 82 (0, 0))
  br : w'.heap[gr]? = some (.cells #[.slice none 0 0, .slice none 0 0] 33 (0, 0))
  bl : Below w.heap.size w w'
/-- They are apart, and the call's own. -/
def Apt (w : World) (gr gb gL gB : Nat) : Prop := ((gL ≠ gB ∧ gL ≠ gb ∧ gL ≠ gr) ∧ (gB ≠ gb ∧ gB ≠ gr) ∧ gb ≠ gr) ∧ (w.heap.size ≤ gL ∧ w.heap.size ≤ gB ∧ w.heap.size ≤ gb ∧ w.heap.size ≤ gr)
/-- Where the owners' row may lie. -/
def Pf (w : World) (gr gb gL gB : Nat) : Nat → Prop := fun k => w.heap.size ≤ k ∧ k ≠ gL ∧ k ≠ gB ∧ k ≠ gb ∧ k ≠ gr
section
variable {w w' w2 : World} {n : Nat} {A0 : Option Addr} {c0 gr gb gL cL gB cB : Nat} {L B : List Int} {v : Value}
theorem Fit.below (h : Fit w n A0 c0 gr gb gL cL gB cB L B v w') (hb : Below w'.heap.size w' w2) : Fit w n A0 c0 gr gb gL cL gB cB L B v w2 := ⟨Kd.R_below h.rL hb, Kd.R_below h.rB hb, blk_below h.bk hb, blk_below h.br hb, below_step h.bl hb⟩
theorem Fit.drew (h : Fit w n A0 c0 gr gb gL cL gB cB L B v w') : Fit w n A0 c0 gr gb gL cL gB cB L B v w'.drew := h.below (below_drew1 (Below.refl _ _))
theorem Fit.grown (h : Fit w n A0 c0 gr gb gL cL gB cB L B v w') {row : Option Nat} (hg : w'.grownBy w2 row) (hne : ∀ k, row = some k → Pf w gr gb gL gB k) (hb : Below w.heap.size w w2) : Fit w n A0 c0 gr gb gL cL gB cB L B v w2 :=
  ⟨Kd.R_grown h.rL hg (fun k hk e => (hne k e.symm).2.1 hk), Kd.R_grown h.rB hg (fun k hk e => (hne k e.symm).2.2.1 hk), blk_grown h.bk hg (fun e => (hne _ e.symm).2.2.2.1 rfl), blk_grown h.br hg (fun e => (hne _ e.symm).2.2.2.2 rfl), hb⟩
theorem Fit.put (h : Fit w n A0 c0 gr gb gL cL gB cB L B v w') (a : Apt w gr gb gL gB) (v2 : Value) : Fit w n A0 c0 gr gb gL cL gB cB L B v2 (w'.setCell ⟨gb, 3, none⟩ v2) :=
  ⟨h.rL.far a.1.1.2.1 _, h.rB.far a.1.2.1.1 _, blk_put h.bk 3 v2 rfl, blk_far h.br (Ne.symm a.1.2.2) _, below_set h.bl a.2.2.2.1⟩
theorem Fit.far (h : Fit w n A0 c0 gr gb gL cL gB cB L B v w') {g i : Nat} (hp : Pf w gr gb gL gB g) (u : Value) : Fit w n A0 c0 gr gb gL cL gB cB L B v (w'.setCell ⟨g, i, none⟩ u) :=
  ⟨h.rL.far (Ne.symm hp.2.1) _, h.rB.far (Ne.symm hp.2.2.1) _, blk_far h.bk (Ne.symm hp.2.2.2.1) _, blk_far h.br (Ne.symm hp.2.2.2.2) _, below_set h.bl hp.1⟩
theorem Fit.fresh (h : Fit w n A0 c0 gr gb gL cL gB cB L B v w') : ∀ k, w'.heap.size ≤ k → Pf w gr gb gL gB k := fun k hk => by
  have h1 := h.rL.own
  have h2 := h.rB.own
  have h3 := blk_lt h.bk
  have h4 := blk_lt h.br
  have h5 := h.bl.size
  exact ⟨by omega, by omega, by omega, by omega, by omega⟩
end
def seeksF (C : List (List Int)) : Nat → Int → List Int × List Int × List Int → Option (List Int × List Int × List Int)
  | 0, _, s => some s
  | j + 1, x, s => (seekF C s.1 s.2.1 s.2.2 x).bind fun s' => seeksF C j (x + 1) s'
def putsF (O : List Int) (n : Nat) : Nat → Int → List Int → Option (List Int)
  | 0, _, o => some o
  | j + 1, x, o => if 0 ≤ rd O x ∧ rd O x < (n : Int) then putsF O n j (x + 1) (o.set (rd O x).toNat x) else none
def fitF (C : List (List Int)) : Option (List Int × List Int × List Int) :=
  if 1 ≤ C.length ∧ C.length ≤ 1000 then (seeksF C C.length 0 (List.replicate C.length 0, List.replicate C.length 0, List.replicate C.length (-1))).bind fun s => (putsF s.2.2 C.length C.length 0 (List.replicate C.length 0)).bind fun o => some (o, s.1, s.2.1) else none
theorem neg_more {x : Int} (h0 : 0 ≤ x) : List.replicate x.toNat (-1 : Int) ++ [-1] = List.replicate (x + 1).toNat (-1) := by
  rw [show (x + 1).toNat = x.toNat + 1 by omega, List.replicate_succ']
end Go.Proofs.YtdlblaihleojmaaW.PrintOwn
