-- Texts by hand and by programs of this session, joined (wip/tool/merge.py).
import Derived.RangeFuncNested
import Derived.RangeFuncBound
import Derived.RangeFuncCalls
import Derived.RangeFuncLeaves
import Derived.RangeFuncBox
import Derived.Shelf.Abstract
import Derived.Shelf.RegionOpen
import Derived.OwnWalkIn
import Derived.TacticsInMore
import Derived.LoopNIn
import Derived.LoopIn
import Derived.Test.YtdgpcjhincgijaaMLT4
import Derived.Test.YtdgpcjhincgijaaMLT9
-- YtdgpcjhincgijaaLm6
namespace Go.Proofs.Ytdgpcjhincgijaa.Pr
open Go.RowKit Go.Shelf Go.Proofs.YtdgpcjhincgijaaW.PrintWords Go.Proofs.YtdgpcjhincgijaaW.PrintLast Go.Proofs.YtdgpcjhincgijaaW.PrintMore
set_option linter.unusedVariables false
set_option linter.unusedSimpArgs false
/-! ### What a level's loop keeps -/
theorem keeps_below {B : Nat} {W W1 W2 : World} (h : KeepsFrom B W W1) (k : Below W1.heap.size W1 W2) : KeepsFrom B W W2 := h.trans ⟨k.size, fun i o _ hi _ => (k.block i (Array.getElem?_eq_some_iff.1 hi).1).trans hi⟩
theorem keeps_grown {B t : Nat} {W W1 W2 : World} {row : Option Nat} (h : KeepsFrom B W W1) (hg : W1.grownBy W2 row) (hr : ∀ k, row = some k → ∃ cells, W1.heap[k]? = some (.cells cells t (0, 0))) : KeepsFrom B W W2 :=
  h.trans ⟨hg.size, fun i o _ hi ho => (hg.block i (Array.getElem?_eq_some_iff.1 hi).1 (fun e => by
    obtain ⟨cells, hc⟩ := hr i e.symm
    rw [hc] at hi
    injection hi with hi
    subst hi
    cases ho)).trans hi⟩
/-- All that lay ahead of n₀ lies as it lay, but the box gn and the row own0. -/
def KpN (n₀ gn : Nat) (own0 : Option Nat) (W W' : World) : Prop := W.heap.size ≤ W'.heap.size ∧ KeepB (fun k => k < n₀ ∧ k ≠ gn ∧ some k ≠ own0) W W'
section
variable {n₀ gn : Nat} {own0 : Option Nat} {W W' W2 : World}
theorem KpN.refl (n₀ gn : Nat) (own0 : Option Nat) (W : World) : KpN n₀ gn own0 W W := ⟨Nat.le_refl _, KeepB.refl _ _⟩
theorem KpN.trans (h : KpN n₀ gn own0 W W') (k : KpN n₀ gn own0 W' W2) : KpN n₀ gn own0 W W2 := ⟨Nat.le_trans h.1 k.1, h.2.trans h.1 k.2⟩
theorem KpN.below (h : KpN n₀ gn own0 W W') (hb : Below W'.heap.size W' W2) : KpN n₀ gn own0 W W2 := h.trans ⟨hb.size, fun k _ hl => hb.block k hl⟩
theorem KpN.grown (h : KpN n₀ gn own0 W W') {row : Option Nat} (hg : W'.grownBy W2 row) (hr : ∀ k, row = some k → n₀ ≤ k ∨ k = gn ∨ some k = own0) : KpN n₀ gn own0 W W2 := h.trans ⟨hg.size, fun k ⟨h1, h2, h3⟩ hl => hg.block k hl (fun e => by rcases hr k e.symm with h | h | h <;> first | omega | exact h2 h | exact h3 h)⟩
theorem KpN.drew (W : World) : KpN n₀ gn own0 W W.drew := ⟨Nat.le_refl _, fun _ _ _ => rfl⟩
theorem KpN.put {n : Nat} (hl : n₀ ≤ n) {o o' : Obj} : KpN n₀ gn own0 W (W.putObj n o') := (KpN.refl _ _ _ _).grown (grownBy_putObj' W n o') (fun k e => by injection e with e; subst e; exact .inl hl)
theorem KpN.cell (h : KpN n₀ gn own0 W W') {p : Addr} (h1 : p.block < n₀) (h2 : p.block ≠ gn) (h3 : some p.block ≠ own0) {v : Value} (hv : W.cell? p = some v) : W'.cell? p = some v := h.2.cell ⟨h1, h2, h3⟩ hv
theorem KpN.blk (h : KpN n₀ gn own0 W W') {k : Nat} {o : Obj} (h1 : k < n₀) (h2 : k ≠ gn) (h3 : some k ≠ own0) (hv : W.heap[k]? = some o) : W'.heap[k]? = some o := (h.2 k ⟨h1, h2, h3⟩ (blk_lt hv)).trans hv
end
theorem InAt.kp {n₀ gn : Nat} {own0 : Option Nat} {W W' : World} {g : G44} (h : InAt W g) (hk : KpN n₀ gn own0 W W') (hn : W.heap.size ≤ n₀) (hg : ∃ cells, W.heap[gn]? = some (.cells cells 42 (0, 0))) (ho : ∀ k, own0 = some k → ∃ cells, W.heap[k]? = some (.cells cells 44 (0, 0))) : InAt W' g := h.eq fun k ⟨c, hc⟩ =>
  hk.2 k ⟨Nat.lt_of_lt_of_le (blk_lt hc) hn, fun e => by
    subst e
    obtain ⟨c2, hc2⟩ := hg
    rw [hc] at hc2
    injection hc2 with h2
    injection h2 with _ h2 _
    exact absurd h2 (by decide), fun e => by
    obtain ⟨c2, hc2⟩ := ho k e.symm
    rw [hc] at hc2
    injection hc2 with h2
    injection h2 with _ h2 _
    exact absurd h2 (by decide)⟩ (blk_lt hc)
def joinP (x : G44 × G44) : Int × List Int := (x.1.f0 + x.2.f0, x.1.l ++ x.2.l)
/-- While a level is made: the box of the next row, the row, what is new in it. -/
def NxI (wb W3 : World) (gn : Nat) (own0 : Option Nat) (cl : List G44) (pre : List (G44 × G44)) (W : World) : Prop :=
  ∃ v ns, W.heap[gn]? = some (.cells #[v] 42 (0, 0)) ∧ Kd.R kG 44 W wb.heap.size (fun k => some k = own0 ∨ W3.heap.size ≤ k) v (cl ++ ns) ∧ ns.map pl = pre.map joinP ∧ InAll W ns ∧ KpN W3.heap.size gn own0 W3 W ∧ Below wb.heap.size wb W ∧ ∀ g ∈ ns, ∀ ad, g.A = some ad → W3.heap.size ≤ ad.block
theorem grown_ne {B : Nat} {W W' : World} {row : Option Nat} (hr : ∀ r, row = some r → B ≤ r ∧ ∃ o : Obj, W.heap[r]? = some o ∧ o.isCells = false) {g t : Nat} {cells : Array Value} (h : W.heap[g]? = some (.cells cells t (0, 0))) : some g ≠ row := fun e => by
  obtain ⟨_, o, ho, hn⟩ := hr _ e.symm
  rw [h] at ho
  injection ho with ho
  subst ho
  cases hn
theorem nxI_own (wb W3 : World) (gn : Nat) (own0 : Option Nat) (cl : List G44) (hB : wb.heap.size ≤ W3.heap.size) : OwnFrom W3.heap.size (NxI wb W3 gn own0 cl) := by
  rintro pre W W' row ⟨v, ns, h1, h2, h3, h4, h5, h6, h7⟩ hg hr
  refine ⟨v, ns, blk_grown h1 hg (grown_ne (W' := W') hr h1), Kd.R_mono (Kd.R_grown (Kd.R_tight2 rfl h2) hg (fun k hk e2 => ?_)) (fun _ h => h.2), h3, fun g hg2 => (h4 g hg2).eq (fun k ⟨_, hc⟩ => hg.block k (blk_lt hc) (grown_ne (W' := W') hr hc)), h5.grown hg (fun k e => .inl (hr k e).1), ownFrom_below (β := List (G44 × G44)) (Nat.le_refl _) hB pre W W' row h6 hg hr, h7⟩
  obtain ⟨cells, hc⟩ := Kd.R_typed h2 k hk.1.symm
  exact grown_ne (W' := W') hr hc e2
/-! ### The marks that ranges over a function leave -/
def Marks (base : Nat) (W : World) (ds : List Deferred) : Prop := ds.Pairwise (fun a b => a.target ≠ b.target) ∧ ∀ d ∈ ds, ∃ D, d = { target := .collected D, args := #[] } ∧ base ≤ D ∧ W.heap[D]? = some (.deferred (some []))
theorem marks_nil (base : Nat) (W : World) : Marks base W [] := ⟨List.Pairwise.nil, fun _ h => by cases h⟩
theorem Marks.grown {base : Nat} {W W' : World} {ds : List Deferred} (h : Marks base W ds) {row : Option Nat} (hg : W.grownBy W' row) (hr : ∀ r, row = some r → ∃ cells t fr, W.heap[r]? = some (.cells cells t fr)) : Marks base W' ds := ⟨h.1, fun d hd => by
  obtain ⟨D, e, hb, hD⟩ := h.2 d hd
  refine ⟨D, e, hb, (hg.block D (blk_lt hD) fun e2 => ?_).trans hD⟩
  obtain ⟨c, t, fr, hc⟩ := hr D e2.symm
  rw [hD] at hc
  injection hc with hc
  cases hc⟩
theorem Marks.below {base : Nat} {W W' : World} {ds : List Deferred} (h : Marks base W ds) (hb : Below W.heap.size W W') : Marks base W' ds := ⟨h.1, fun d hd => by
  obtain ⟨D, e, hb2, hD⟩ := h.2 d hd
  exact ⟨D, e, hb2, (hb.block D (blk_lt hD)).trans hD⟩⟩
theorem Marks.kp {base n₀ gn : Nat} {own0 : Option Nat} {W W' : World} {ds : List Deferred} (h : Marks base W ds) (hk : KpN n₀ gn own0 W W') (hn : W.heap.size ≤ n₀) (hg : ∃ cells t fr, W.heap[gn]? = some (.cells cells t fr)) (ho : ∀ k, own0 = some k → ∃ cells t fr, W.heap[k]? = some (.cells cells t fr)) : Marks base W' ds := ⟨h.1, fun d hd => by
  obtain ⟨D, e, hb2, hD⟩ := h.2 d hd
  refine ⟨D, e, hb2, hk.blk (Nat.lt_of_lt_of_le (blk_lt hD) hn) (fun e2 => ?_) (fun e2 => ?_) hD⟩
  · subst e2
    obtain ⟨c, t, fr, hc⟩ := hg
    rw [hD] at hc
    injection hc with hc
    cases hc
  · obtain ⟨c, t, fr, hc⟩ := ho D e2.symm
    rw [hD] at hc
    injection hc with hc
    cases hc⟩
theorem Marks.cons {base : Nat} {W : World} {ds : List Deferred} (h : Marks base W ds) {D : Nat} (hb : base ≤ D) (hD : W.heap[D]? = some (.deferred (some []))) (hn : ∀ d ∈ ds, d.target ≠ .collected D) : Marks base W ({ target := .collected D, args := #[] } :: ds) := ⟨List.pairwise_cons.2 ⟨fun a ha => fun e => hn a ha e.symm, h.1⟩, fun d hd => by
  rcases List.mem_cons.1 hd with rfl | hd
  · exact ⟨D, rfl, hb, hD⟩
  · exact h.2 d hd⟩
/-- The function is left: the marks are shut, one by one. -/
theorem leaves_marks {F : Fence} {n : Nat} {P : Program} {fn : Func} {tmps : Array Value} {R : Ending → World → Prop} {base : Nat} : ∀ (ds : List Deferred) (W : World), Marks base W ds →
    (∀ W', (∀ k, k < W.heap.size → (∀ d ∈ ds, d.target ≠ .collected k) → W'.heap[k]? = W.heap[k]?) → W'.heap.size = W.heap.size → (∀ n₀, n₀ ≤ base → Below n₀ W W') → ∃ v, (results fn tmps).run P W' = .ok v W' ∧ R (.returned v) W') → LeavesInM F n P fn tmps R ds .returning W
  | [], W, _, h => h W (fun _ _ _ => rfl) rfl (fun n₀ _ => Below.refl _ _)
  | d :: ds, W, hM, h => by
    obtain ⟨D, e, hb, hD⟩ := hM.2 d (List.mem_cons_self)
    obtain ⟨hp1, hp2⟩ := List.pairwise_cons.1 hM.1
    refine ⟨by simp, .inl ⟨D, W.putObj D (.deferred none), by rw [e], run_takeDeferred hD, ?_⟩⟩
    have hg := grownBy_putObj' W D (.deferred none)
    have hsz : (W.putObj D (.deferred none)).heap.size = W.heap.size := by simp [World.putObj]
    refine leaves_marks (base := base) ds _ ⟨hp2, fun d2 hd2 => ?_⟩ (fun W' h1 h2 h3 => ?_)
    · obtain ⟨D2, e2, hb2, hD2⟩ := hM.2 d2 (List.mem_cons_of_mem _ hd2)
      refine ⟨D2, e2, hb2, (hg.block D2 (blk_lt hD2) fun e3 => ?_).trans hD2⟩
      injection e3 with e3
      subst e3
      exact hp1 d2 hd2 (by rw [e, e2])
    · refine h W' (fun k hk hn => ?_) (h2.trans hsz) (fun n₀ hn₀ => ((Below.refl n₀ W).grown hg (by have := blk_lt hD; omega) (fun k e => by injection e with e; subst e; omega)).trans (h3 n₀ hn₀))
      rw [h1 k (by rw [hsz]; exact hk) (fun d2 hd2 => hn d2 (List.mem_cons_of_mem _ hd2))]
      exact hg.block k hk (fun e3 => by injection e3 with e3; exact hn d List.mem_cons_self (by rw [e, e3]))
theorem ints_grown {W W' : World} {base : Nat} {ok : Nat → Prop} {v : Value} {xs : List Int} {row : Option Nat} (h : Kd.R (Kd.int .i64) 3 W base ok v xs) (hg : W.grownBy W' row) (hr : ∀ r, row = some r → ∃ cells, W.heap[r]? = some (.cells cells 44 (0, 0))) : Kd.R (Kd.int .i64) 3 W' base ok v xs :=
  Kd.R_mono (Kd.R_grown (Kd.R_tight2 rfl h) hg (fun k hk e => by
    obtain ⟨c, hc⟩ := Kd.R_typed h k hk.1.symm
    obtain ⟨c2, hc2⟩ := hr k e.symm
    rw [hc] at hc2
    injection hc2 with h2
    injection h2 with _ h2 _
    exact absurd h2 (by decide))) (fun _ h => h.2)
/-- What stands ahead of a level. -/
structure LevI (wb : World) (S : List (Int × List Int)) (sv : List G44) (g6 c6 go c9 : Nat) (l : List Int) (m j : Nat) (hv : List G44) (A10 : Option Addr) (c10 : Nat) (ds : List Deferred) (W : World) : Prop where
  le : j ≤ m
  rel : HaveRel S j (hv.map pl)
  bnd : ∀ g ∈ hv, 0 ≤ g.f0 ∧ g.f0 ≤ 4294967296 * 2 ^ j ∧ g.l.length ≤ 2 ^ j
  len : hv.length ≤ 2 * sv.length
  hvR : Kd.R kG 44 W wb.heap.size (fun _ => True) (.slice A10 hv.length c10) hv
  hvI : InAll W hv
  svR : Kd.R kG 44 W wb.heap.size (fun _ => True) (.slice (some ⟨g6, 0, none⟩) sv.length c6) sv
  svI : InAll W sv
  outR : Kd.R (Kd.int .i64) 3 W wb.heap.size (fun _ => True) (.slice (some ⟨go, 0, none⟩) l.length c9) (zerosL l)
  far : ∀ g, g ∈ hv ∨ g ∈ sv → ∀ ad, g.A = some ad → ad.block ≠ go
  marks : Marks wb.heap.size W ds
  below : Below wb.heap.size wb W
theorem kp_R44 {n₀ gn base : Nat} {own0 : Option Nat} {W W' : World} {v : Value} {d : List G44} (h : Kd.R kG 44 W base (fun _ => True) v d) (hk : KpN n₀ gn own0 W W') (hn : W.heap.size ≤ n₀) (hg : ∃ cells, W.heap[gn]? = some (.cells cells 42 (0, 0))) (ho : v.ownBlock ≠ own0 ∨ v.ownBlock = none) : Kd.R kG 44 W' base (fun _ => True) v d :=
  Kd.R_mono (Kd.R_step (Kd.R_tight2 rfl h) (fun k hk2 hl => hk.2 k ⟨Nat.lt_of_lt_of_le hl hn, fun e => by
    subst e
    obtain ⟨c, hc⟩ := Kd.R_typed h k hk2.1.symm
    obtain ⟨c2, hc2⟩ := hg
    rw [hc] at hc2
    injection hc2 with h2
    injection h2 with _ h2 _
    exact absurd h2 (by decide), fun e => by
    rcases ho with ho | ho
    · exact ho (hk2.1.symm.trans e)
    · rw [ho] at hk2; cases hk2.1⟩ hl)) (fun _ _ => trivial)
theorem kp_Rint {n₀ gn base : Nat} {own0 : Option Nat} {W W' : World} {v : Value} {d : List Int} (h : Kd.R (Kd.int .i64) 3 W base (fun _ => True) v d) (hk : KpN n₀ gn own0 W W') (hn : W.heap.size ≤ n₀) (hg : ∃ cells, W.heap[gn]? = some (.cells cells 42 (0, 0))) (ho : ∀ k, own0 = some k → ∃ cells, W.heap[k]? = some (.cells cells 44 (0, 0))) : Kd.R (Kd.int .i64) 3 W' base (fun _ => True) v d :=
  Kd.R_mono (Kd.R_step (Kd.R_tight2 rfl h) (fun k hk2 hl => hk.2 k ⟨Nat.lt_of_lt_of_le hl hn, fun e => by
    subst e
    obtain ⟨c, hc⟩ := Kd.R_typed h k hk2.1.symm
    obtain ⟨c2, hc2⟩ := hg
    rw [hc] at hc2
    injection hc2 with h2
    injection h2 with _ h2 _
    exact absurd h2 (by decide), fun e => by
    obtain ⟨c, hc⟩ := Kd.R_typed h k hk2.1.symm
    obtain ⟨c2, hc2⟩ := ho k e.symm
    rw [hc] at hc2
    injection hc2 with h2
    injection h2 with _ h2 _
    exact absurd h2 (by decide)⟩ hl)) (fun _ _ => trivial)
theorem InAt.set42 {W : World} {g : G44} {gn : Nat} {cs : Array Value} (h : InAt W g) (hg : W.heap[gn]? = some (.cells cs 42 (0, 0))) (i : Nat) (u : Value) : InAt (W.setCell ⟨gn, i, none⟩ u) g := h.eq fun k ⟨c, hc⟩ => Below.heap_setCell W ⟨gn, i, none⟩ u k (fun e => by
  have e : k = gn := e
  subst e
  rw [hc] at hg
  injection hg with h2
  injection h2 with _ h2 _
  exact absurd h2 (by decide))
theorem grownBy_set {W : World} (gn i : Nat) (u : Value) : W.grownBy (W.setCell ⟨gn, i, none⟩ u) (some gn) := ⟨rfl, rfl, rfl, by simp [World.setCell], fun k _ hne => Below.heap_setCell W ⟨gn, i, none⟩ u k (fun e => hne (by rw [show k = gn from e]))⟩
theorem two_cells {W : World} {r : Nat} {a b : Value} {t : TypeId} (h : W.heap[r]? = some (.cells #[a, b] t (0, 0))) : W.cell? ((⟨r, 0, none⟩ : Addr).add 0) = some a ∧ W.cell? ((⟨r, 0, none⟩ : Addr).add 1) = some b := ⟨(blk_cell h 0).trans rfl, (blk_cell h 1).trans rfl⟩
theorem InAt.len {W : World} {g : G44} (h : InAt W g) : g.n = g.l.length := h.1
theorem InAt.row {W : World} {g : G44} (h : InAt W g) : (Kd.int .i64).C W g.A g.l.length g.l := h.2.1
theorem two_at0 {W : World} {r : Nat} {x y : G44} (hx : InAt W x) (hy : InAt W y) {t : TypeId} (h : W.heap[r]? = some (.cells #[.slice x.A x.n x.c, .slice y.A y.n y.c] t (0, 0))) : W.cell? ((⟨r, 0, none⟩ : Addr).add 0) = some (.slice x.A x.l.length x.c) ∧ W.cell? ((⟨r, 0, none⟩ : Addr).add 1) = some (.slice y.A y.l.length y.c) := by
  rw [hx.1, hy.1] at h
  exact two_cells h
/-! ### A region that draws, in a round of a range over a function, by the steps of a region outside -/
theorem uponIn_of_upon {l n : Nat} {P : Program} {o : Oper} {a : Act} {K : Act → World → Prop} {Q : Exit → Act → World → Prop} {r : Result Next} (h : o.upon P a K Q r) : o.uponIn (Fence.wide.inRound l) n P a K Q r := by
  cases r with
  | ok x w' =>
    cases x with
    | enter f args => exact ⟨fun h => (by cases h), CallsIn.inRound l (callsIn_wide.2 h)⟩
    | row row args => exact ⟨fun h => (by cases h), fun c cs _ => let ⟨v, w2, r, s⟩ := h c cs; ⟨v, w2, r, stepsIn_wide.2 s⟩⟩
    | round l2 f tmps assign body => exact False.elim h
    | _ => exact h
  | halt x w' => cases x <;> exact h
theorem wpOpIn_of_wpOp {l n : Nat} {P : Program} {ops : Array Oper} {Q : Exit → Act → World → Prop} {i : Nat} {K K' : Act → World → Prop} {a : Act} {w : World} (hnd : ∀ o ∈ ops, ∀ c, o.op ≠ .defer c) (hno : ¬ LetsOut Q) (hK : ∀ a w, K a w → K' a w)
    (h : wpOp P ops Q i K a w) : wpOpIn (Fence.wide.inRound l) n P ops Q i K' a w := by
  unfold wpOp at h
  unfold wpOpIn
  cases ho : ops[i]? with
  | none => rw [ho] at h; exact hK _ _ h
  | some o =>
    rw [ho] at h
    dsimp only at h ⊢
    have hm : o ∈ ops := Array.mem_of_getElem? ho
    by_cases hw : Region.wanted o (yielded ops a.tmps) = true
    · rw [if_pos hw] at h ⊢
      refine Oper.wpIn_mono hK ?_
      refine ⟨fun f _ => trivial, ?_⟩
      rw [Oper.semAt_plain (Fence.wide.inRound l) _ _ (hnd o hm)]
      exact uponIn_of_upon (h.resolve_right (fun h => hno h.2))
    · rw [if_neg hw] at h ⊢
      exact ⟨fun f _ => trivial, hK _ _ h⟩
theorem wpAnyIn_of_wpAny {l n : Nat} {P : Program} {md : Region.Mode} {ops : Array Oper} {Q : Exit → Act → World → Prop} (hnd : ∀ o ∈ ops, ∀ c, o.op ≠ .defer c) (hno : ¬ LetsOut Q) : ∀ (fuel : Nat) (listed : Array Bool) (a : Act) (w : World), wpAny P md ops Q fuel listed a w → wpAnyIn (Fence.wide.inRound l) n P md ops Q fuel listed a w
  | 0, _, _, _, h => h
  | fuel + 1, listed, a, w, h => ⟨h.1, fun i hi => wpOpIn_of_wpOp hnd hno (fun a w h => wpAnyIn_of_wpAny hnd hno fuel _ a w h) (h.2 i hi)⟩
def noDefer (ops : Array Oper) : Bool := ops.all fun o => match o.op with | .defer _ => false | _ => true
theorem noDefer_spec {ops : Array Oper} (h : noDefer ops = true) : ∀ o ∈ ops, ∀ c, o.op ≠ .defer c := by
  intro o ho c e
  unfold noDefer at h
  rw [Array.all_eq_true'] at h
  have := h o ho
  rw [e] at this
  cases this
theorem start_in {lp k : Nat} {P : Program} {ops : Array Oper} {Q : Exit → Act → World → Prop} {S : World → Prop} {ds : List Nat} {id n : Nat} {a : Act} {w : World} (l : Array Bool) (hno : ¬ LetsOut Q) (hd : noDefer ops = true) (hm : P.follows .mixedOrders = true) (hn : ops.size = n) (hl : Array.replicate n false = l) (hS : S w.drew)
    (h : S w.drew → wpAnyLast P .any ops Q S ds n l a w.drew) : (Code.region id ops true).wpIn (Fence.wide.inRound lp) k P Q a w := by
  subst hn
  subst hl
  exact wpIn_region_any hm (wpAnyIn_of_wpAny (noDefer_spec hd) hno _ _ _ _ (wpAny_of_last _ _ _ _ (h hS)))
/-! ### A region in a function that holds a range over a function: nothing panics there -/
end Go.Proofs.Ytdgpcjhincgijaa.Pr

-- YtdgpcjhincgijaaLm7
namespace Go.Proofs.Ytdgpcjhincgijaa.Pr
open Go.RowKit Go.Shelf Go.Proofs.YtdgpcjhincgijaaW.PrintWords Go.Proofs.YtdgpcjhincgijaaW.PrintLast Go.Proofs.YtdgpcjhincgijaaW.PrintMore
set_option linter.unusedVariables false
set_option linter.unusedSimpArgs false
/-! ### From level to level -/
theorem Srt.map {α β : Type} {κ : α → Int} {κ' : β → Int} {f : α → β} (hk : ∀ x, κ' (f x) = κ x) {Z : List α} (h : Srt κ Z) : Srt κ' (Z.map f) := by
  unfold Srt at h ⊢
  rw [List.pairwise_map]
  exact h.imp (fun {x y} hxy => by rw [hk, hk]; exact hxy)
theorem Stb.map {α β : Type} {κ : α → Int} {κ' : β → Int} {f : α → β} (hk : ∀ x, κ' (f x) = κ x) {L Z : List α} (h : Stb κ L Z) : Stb κ' (L.map f) (Z.map f) := fun k => by
  have e : ∀ X : List α, (X.map f).filter (fun x => κ' x == k) = (X.filter (fun x => κ x == k)).map f := fun X => by
    rw [List.filter_map]
    congr 1
    exact List.filter_congr (fun x _ => by simp only [Function.comp, hk])
  rw [e, e, h k]
theorem pairP_take : ∀ (n : Nat) (Y : List (Int × List Int)), 2 * n ≤ Y.length → pairP (Y.take (2 * n)) = (List.range n).map (fun k => ((Y.getD (2 * k) (0, [])).1 + (Y.getD (2 * k + 1) (0, [])).1, (Y.getD (2 * k) (0, [])).2 ++ (Y.getD (2 * k + 1) (0, [])).2))
  | 0, Y, _ => by simp [pairP]
  | n + 1, [], h => by simp at h
  | n + 1, [_], h => by simp at h; omega
  | n + 1, a :: b :: t, h => by
    rw [show 2 * (n + 1) = 2 * n + 1 + 1 by omega, List.take_succ_cons, List.take_succ_cons, pairP, pairP_take n t (by simp at h; omega), List.range_succ_eq_map, List.map_cons, List.map_map]
    congr 1
theorem pairP_all : ∀ (Y : List (Int × List Int)), pairP Y = pairP (Y.take (2 * (Y.length / 2)))
  | [] => rfl
  | [_] => by simp [pairP]
  | a :: b :: t => by
    rw [show 2 * ((a :: b :: t).length / 2) = 2 * (t.length / 2) + 1 + 1 by simp; omega, List.take_succ_cons, List.take_succ_cons, pairP, pairP, ← pairP_all t]
theorem prsL_range (d : List G44) : ∀ n, prsL d n = (List.range n).map (fun k => (rd_T44 d ((2 * k : Nat) : Int), rd_T44 d ((2 * k + 1 : Nat) : Int)))
  | 0 => rfl
  | n + 1 => by rw [prsL, prsL_range d n, List.range_succ, List.map_append]; rfl
theorem pl_rd {d : List G44} {k : Nat} (hk : k < d.length) : pl (rd_T44 d (k : Int)) = (d.map pl).getD k (0, []) := by
  unfold rd_T44
  rw [Int.toNat_natCast, List.getD_eq_getElem?_getD, List.getD_eq_getElem?_getD, List.getElem?_map, List.getElem?_eq_getElem hk]
  rfl
theorem pairP_prs (d : List G44) : pairP (d.map pl) = (prsL d (d.length / 2)).map joinP := by
  rw [pairP_all, List.length_map, pairP_take _ _ (by rw [List.length_map]; omega), prsL_range, List.map_map]
  refine List.map_congr_left (fun k hk => ?_)
  have hk := List.mem_range.1 hk
  have h1 := pl_rd (d := d) (k := 2 * k) (by omega)
  have h2 := pl_rd (d := d) (k := 2 * k + 1) (by omega)
  rw [← h1, ← h2]
  rfl
theorem ns_mem {hv ns : List G44} {xs : List (Prs hv)} (h : ns.map pl = (xs.map Subtype.val).map joinP) {g : G44} (hg : g ∈ ns) : ∃ x y, x ∈ hv ∧ y ∈ hv ∧ g.f0 = x.f0 + y.f0 ∧ g.l = x.l ++ y.l := by
  have h1 : pl g ∈ ns.map pl := List.mem_map.2 ⟨g, hg, rfl⟩
  rw [h] at h1
  obtain ⟨q, hq, e⟩ := List.mem_map.1 h1
  obtain ⟨⟨⟨x, y⟩, hxy⟩, _, rfl⟩ := List.mem_map.1 hq
  unfold pl joinP at e
  injection e with e1 e2
  exact ⟨x, y, hxy.1, hxy.2, e1.symm, e2.symm⟩
def SvB (sv : List G44) : Prop := ∀ g ∈ sv, 0 ≤ g.f0 ∧ g.f0 ≤ 4294967296 ∧ g.l.length ≤ 1
theorem next_bnd {hv sv ns : List G44} {xs : List (Prs hv)} {j : Nat} (h : ns.map pl = (xs.map Subtype.val).map joinP) (hb : ∀ g ∈ hv, 0 ≤ g.f0 ∧ g.f0 ≤ 4294967296 * 2 ^ j ∧ g.l.length ≤ 2 ^ j) (hs : SvB sv) : ∀ g ∈ sv ++ ns, 0 ≤ g.f0 ∧ g.f0 ≤ 4294967296 * 2 ^ (j + 1) ∧ g.l.length ≤ 2 ^ (j + 1) := fun g hg => by
  have hp : 1 ≤ 2 ^ j := Nat.one_le_two_pow
  have hpi : (1 : Int) ≤ 2 ^ j := by have := Int.ofNat_le.2 hp; rwa [Int.natCast_pow] at this
  rw [Int.pow_succ, Nat.pow_succ]
  rcases List.mem_append.1 hg with hg | hg
  · have := hs g hg
    omega
  · obtain ⟨x, y, hx, hy, e1, e2⟩ := ns_mem h hg
    have h1 := hb x hx
    have h2 := hb y hy
    rw [e1, e2, List.length_append]
    omega
theorem next_dm {hv sv ns : List G44} {xs : List (Prs hv)} {j : Nat} (hj : j ≤ 15) (h : ns.map pl = (xs.map Subtype.val).map joinP) (hb : ∀ g ∈ hv, 0 ≤ g.f0 ∧ g.f0 ≤ 4294967296 * 2 ^ j ∧ g.l.length ≤ 2 ^ j) (hs : SvB sv) : ∀ g ∈ sv ++ ns, PDm g := fun g hg => by
  have := next_bnd h hb hs g hg
  have h3 : 2 ^ (j + 1) ≤ 65536 := (Nat.pow_le_pow_right (n := 2) (by omega) (show j + 1 ≤ 16 by omega) : 2 ^ (j + 1) ≤ 2 ^ 16)
  have h4 : ((2 : Int) ^ (j + 1)) ≤ 65536 := by have h_ := Int.ofNat_le.2 h3; rw [Int.natCast_pow] at h_; exact h_
  unfold PDm
  omega
/-- One level more. -/
theorem LevI.next {wb wr W3 W W5 : World} {sv : List G44} {g6 c6 go c9 : Nat} {l : List Int} {m j : Nat} {hv : List G44} {A10 : Option Addr} {c10 : Nat} {ds : List Deferred} (HI : LevI wb (sv.map pl) sv g6 c6 go c9 l m j hv A10 c10 ds wr) (hjm : j < m) (hsv : SvB sv)
    {gn : Nat} {own0 : Option Nat} (hwr : wb.heap.size ≤ wr.heap.size) (b3 : Below wr.heap.size wr W3) {cs : Array Value} (hgn : W3.heap[gn]? = some (.cells cs 42 (0, 0))) (hgs : wr.heap.size ≤ gn) (hot : ∀ k, own0 = some k → wr.heap.size ≤ k ∧ k < gn ∧ ∃ cells, W3.heap[k]? = some (.cells cells 44 (0, 0)))
    {D : Nat} (hD : W3.heap.size ≤ D) {xs : List (Prs hv)} (hxs : xs.map Subtype.val = prsL hv (hv.length / 2)) {ns : List G44} (hns : ns.map pl = (xs.map Subtype.val).map joinP) (hin : InAll W ns) (hkp : KpN W3.heap.size gn own0 W3 W) (hbl : Below wb.heap.size wb W) (hfar : ∀ g ∈ ns, ∀ ad, g.A = some ad → W3.heap.size ≤ ad.block) (hDm : W.heap[D]? = some (.deferred (some [])))
    {gx cx : Nat} {Z : List G44} (hgx : wb.heap.size ≤ gx) (how : some gx = own0 ∨ W3.heap.size ≤ gx) (hgt : ∃ cells, W.heap[gx]? = some (.cells cells 44 (0, 0))) (hZ : Srt kF Z) (hst : Stb kF (sv ++ ns) Z) {ok : Nat → Prop} (hR5 : Kd.R kG 44 W5 wb.heap.size ok (.slice (some ⟨gx, 0, none⟩) Z.length cx) Z) (hg : W.grownBy W5 (some gx)) :
    LevI wb (sv.map pl) sv g6 c6 go c9 l m (j + 1) Z (some ⟨gx, 0, none⟩) cx ({ target := .collected D, args := #[] } :: ds) W5 := by
  have hgt2 : ∀ r, some gx = some r → ∃ cells, W.heap[r]? = some (.cells cells 44 (0, 0)) := fun r e => by injection e with e; subst e; exact hgt
  have hgt3 : ∀ r, some gx = some r → ∃ cells t fr, W.heap[r]? = some (.cells cells t fr) := fun r e => by obtain ⟨c, hc⟩ := hgt2 r e; exact ⟨c, _, _, hc⟩
  have hgx2 : wr.heap.size ≤ gx := by
    rcases how with h | h
    · exact (hot gx h.symm).1
    · exact Nat.le_trans b3.size h
  have hg6 : g6 < wr.heap.size := by
    obtain ⟨c, hc⟩ := Kd.R_typed HI.svR g6 rfl
    exact blk_lt hc
  have hgo : go < wr.heap.size := by
    obtain ⟨c, hc⟩ := Kd.R_typed HI.outR go rfl
    exact blk_lt hc
  have hgn' : ∃ cells, W3.heap[gn]? = some (.cells cells 42 (0, 0)) := ⟨_, hgn⟩
  have hot' : ∀ k, own0 = some k → ∃ cells, W3.heap[k]? = some (.cells cells 44 (0, 0)) := fun k e => (hot k e).2.2
  have hlen : ns.length = hv.length / 2 := by
    have h1 := congrArg List.length hns
    rw [List.length_map, List.length_map, hxs, prsL_len] at h1
    exact h1
  refine ⟨by omega, ?_, ?_, ?_, ?_, ?_, ?_, ?_, ?_, ?_, ?_, ?_⟩
  · have h1 := Srt.map (f := pl) (κ' := wP) (fun _ => rfl) hZ
    have h2 := Stb.map (f := pl) (κ' := wP) (fun _ => rfl) hst
    rw [List.map_append, hns, hxs, ← pairP_prs] at h2
    exact .succ HI.rel h1 h2
  · exact fun g hgz => next_bnd hns HI.bnd hsv g ((hst.mem g).1 hgz)
  · rw [hst.len, List.length_append, hlen]
    have := HI.len
    omega
  · exact Kd.R_mono hR5 (fun _ _ => trivial)
  · intro g hgz
    rcases List.mem_append.1 ((hst.mem g).1 hgz) with h | h
    · exact (((HI.svI g h).below b3).kp hkp (Nat.le_refl _) hgn' hot').grown hg hgt2
    · exact (hin g h).grown hg hgt2
  · have h1 := Kd.R_below HI.svR b3
    have h2 := kp_R44 h1 hkp (Nat.le_refl _) hgn' (.inl fun e => by
      have := (hot g6 (by rw [← e]; rfl)).1
      omega)
    exact Kd.R_mono (Kd.R_grown (Kd.R_tight2 rfl h2) hg (fun k hk e => by
      injection e with e
      have h3 := hk.1
      simp [Value.ownBlock] at h3
      omega)) (fun _ _ => trivial)
  · exact fun g h => (((HI.svI g h).below b3).kp hkp (Nat.le_refl _) hgn' hot').grown hg hgt2
  · exact ints_grown (kp_Rint (Kd.R_below HI.outR b3) hkp (Nat.le_refl _) hgn' hot') hg hgt2
  · rintro g (h | h) ad e
    · rcases List.mem_append.1 ((hst.mem g).1 h) with h | h
      · exact HI.far g (.inr h) ad e
      · have := hfar g h ad e
        have := b3.size
        omega
    · exact HI.far g (.inr h) ad e
  · refine (((HI.marks.below b3).kp hkp (Nat.le_refl _) ⟨_, _, _, hgn⟩ (fun k e => by obtain ⟨_, _, c, hc⟩ := hot k e; exact ⟨c, _, _, hc⟩)).cons (Nat.le_trans hwr (Nat.le_trans b3.size hD)) hDm (fun d hd e => ?_)).grown hg hgt3
    obtain ⟨D', e', _, hD'⟩ := HI.marks.2 d hd
    rw [e'] at e
    injection e with e
    have := blk_lt hD'
    have := b3.size
    omega
  · exact hbl.grown hg hbl.size (fun k e => by injection e with e; subst e; exact hgx)
theorem pairP_len : ∀ (Y : List (Int × List Int)), (pairP Y).length = Y.length / 2
  | [] => rfl
  | [_] => by simp [pairP]
  | a :: b :: t => by rw [pairP, List.length_cons, pairP_len t, List.length_cons, List.length_cons]; omega
theorem have_len {S : List (Int × List Int)} {j : Nat} {H : List (Int × List Int)} (h : HaveRel S j H) : ∀ t, S.length ≤ 2 ^ j * t → 2 * S.length ≤ H.length + 2 * t := by
  induction h with
  | zero => intro t ht; simp at ht ⊢; omega
  | @succ j Y Z h hs hb ih =>
    intro t ht
    have h1 := ih (2 * t) (by rw [Nat.pow_succ, Nat.mul_assoc] at ht; exact ht)
    rw [hb.len, List.length_append, pairP_len]
    omega
theorem have_m {S : List (Int × List Int)} {j : Nat} {H : List (Int × List Int)} (h : HaveRel S j H) (hn : S.length ≤ 2 ^ j) : 2 * S.length - 2 ≤ H.length := by
  have := have_len h 1 (by omega)
  omega
/-! ### The row that is told -/
def outK (hv : List G44) (k : Nat) (l : List Int) : List Int := (hv.take k).foldl (fun out g => bumps out g.l) (zerosL l)
theorem takeG (xs : List G44) {k : Nat} (hk : k < xs.length) : xs.take (k + 1) = xs.take k ++ [rd_T44 xs (k : Int)] := by
  rw [List.take_add_one]
  unfold rd_T44
  rw [Int.toNat_natCast, List.getD_eq_getElem?_getD, List.getElem?_eq_getElem hk]
  rfl
theorem outK_succ {hv : List G44} {k : Nat} (hk : k < hv.length) (l : List Int) : outK hv (k + 1) l = bumps (outK hv k l) (rd_T44 hv (k : Int)).l := by
  unfold outK
  rw [takeG hv hk, List.foldl_append]
  rfl
theorem bumps_succ {out r : List Int} {i : Nat} (hi : i < r.length) : bumps out (r.take (i + 1)) = bump (bumps out (r.take i)) (rd r (i : Int)) := by
  unfold bumps
  rw [takeI r hi, List.foldl_append]
  rfl
theorem bump_len (out : List Int) (s : Int) : (bump out s).length = out.length := by
  unfold bump
  rw [List.length_set]
theorem bumps_len : ∀ (r out : List Int), (bumps out r).length = out.length
  | [], _ => rfl
  | s :: r, out => by
    show (bumps (bump out s) r).length = _
    rw [bumps_len r, bump_len]
def InB (B : Nat) (out : List Int) : Prop := ∀ i : Nat, 0 ≤ out.getD i 0 ∧ out.getD i 0 ≤ (B : Int)
theorem InB.bump {B : Nat} {out : List Int} (h : InB B out) (s : Int) : InB (B + 1) (bump out s) := fun i => by
  unfold Pr.bump
  have h1 := h i
  have h2 := h s.toNat
  simp only [List.getD_eq_getElem?_getD, List.getElem?_set] at h1 h2 ⊢
  split
  · split
    · simp only [Option.getD_some]
      omega
    · simp only [Option.getD_none]
      omega
  · omega
theorem InB.mono {B B' : Nat} {out : List Int} (h : InB B out) (hb : B ≤ B') : InB B' out := fun i => by
  have := h i
  omega
theorem InB.bumps {B : Nat} : ∀ (r : List Int) {out : List Int}, InB B out → InB (B + r.length) (bumps out r)
  | [], _, h => h
  | s :: r, out, h => by
    have h1 := InB.bumps (B := B + 1) r (h.bump s)
    rw [List.length_cons, show B + (r.length + 1) = B + 1 + r.length by omega]
    exact h1
theorem InB.zeros (l : List Int) : InB 0 (zerosL l) := fun i => by
  unfold zerosL
  rw [List.getD_eq_getElem?_getD, List.getElem?_replicate]
  split <;> simp
theorem InB.outK {hv : List G44} {C : Nat} (hb : ∀ g ∈ hv, g.l.length ≤ C) : ∀ k, k ≤ hv.length → ∀ l, InB (k * C) (outK hv k l)
  | 0, _, l => by
    rw [Nat.zero_mul]
    exact InB.zeros l
  | k + 1, hk, l => by
    rw [outK_succ (by omega)]
    have h1 := InB.outK hb k (by omega) l
    refine (h1.bumps _).mono ?_
    rw [Nat.succ_mul]
    have : rd_T44 hv (k : Int) ∈ hv := by
      unfold rd_T44
      rw [Int.toNat_natCast, List.getD_eq_getElem?_getD, List.getElem?_eq_getElem (by omega)]
      exact List.getElem_mem _
    have := hb _ this
    omega
theorem have_all {S : List (Int × List Int)} {P : Int → Prop} (hS : ∀ p ∈ S, ∀ s ∈ p.2, P s) {j : Nat} {H : List (Int × List Int)} (h : HaveRel S j H) : ∀ p ∈ H, ∀ s ∈ p.2, P s := by
  induction h with
  | zero => intro p hp; cases hp
  | @succ j Y Z h hs hb ih =>
    have hpp : ∀ (Y : List (Int × List Int)), (∀ p ∈ Y, ∀ s ∈ p.2, P s) → ∀ p ∈ pairP Y, ∀ s ∈ p.2, P s := by
      intro Y
      induction Y using pairP.induct with
      | case1 a b t ih2 =>
        intro hY p hp
        rw [pairP] at hp
        rcases List.mem_cons.1 hp with rfl | hp
        · intro s hs
          rcases List.mem_append.1 hs with hs | hs
          · exact hY a (by simp) s hs
          · exact hY b (by simp) s hs
        · exact ih2 (fun q hq => hY q (by simp [hq])) p hp
      | case2 x hx =>
        intro _ p hp
        unfold pairP at hp
        split at hp
        · exact absurd rfl (hx _ _ _)
        · cases hp
    intro p hp
    rcases List.mem_append.1 ((hb.mem p).1 hp) with hp | hp
    · exact hS p hp
    · exact hpp Y ih p hp
structure OutI (wb : World) (go c9 gh c10 : Nat) (l : List Int) (hv : List G44) (ds : List Deferred) (out : List Int) (W : World) : Prop where
  outR : Kd.R (Kd.int .i64) 3 W wb.heap.size (fun _ => True) (.slice (some ⟨go, 0, none⟩) l.length c9) out
  hvR : Kd.R kG 44 W wb.heap.size (fun _ => True) (.slice (some ⟨gh, 0, none⟩) hv.length c10) hv
  hvI : InAll W hv
  far : ∀ g ∈ hv, ∀ ad, g.A = some ad → ad.block ≠ go
  marks : Marks wb.heap.size W ds
  below : Below wb.heap.size wb W
section
variable {wb : World} {go c9 gh c10 : Nat} {l : List Int} {hv : List G44} {ds : List Deferred} {out : List Int} {W W' : World}
theorem OutI.ahead (h : OutI wb go c9 gh c10 l hv ds out W) (hb : Below W.heap.size W W') : OutI wb go c9 gh c10 l hv ds out W' := ⟨Kd.R_below h.outR hb, Kd.R_below h.hvR hb, h.hvI.below hb, h.far, h.marks.below hb, below_then h.below h.below.size hb⟩
theorem OutI.put (h : OutI wb go c9 gh c10 l hv ds out W) (s : Nat) (v : Int) : OutI wb go c9 gh c10 l hv ds (out.set s v) (W.setCell ⟨go, s, none⟩ (.int .i64 v)) := by
  obtain ⟨cs, hcs⟩ := Kd.R_typed h.outR go rfl
  have hp := Kd.R_putg h.outR (s : Int) v
  rw [Int.toNat_natCast] at hp
  refine ⟨hp.1, Kd.R_mono (Kd.R_far (p := ⟨go, s, none⟩) (Kd.R_types h.hvR hcs (by decide)) (fun _ hk => hk.2) _) (fun _ _ => trivial), fun g hg => ?_, h.far, h.marks.grown hp.2 (fun r e => by injection e with e; subst e; exact ⟨cs, _, _, hcs⟩), below_set h.below (Kd.R_base h.outR go rfl)⟩
  have hi := h.hvI g hg
  have hne : ∀ ad, g.A = some ad → (W.setCell ⟨go, s, none⟩ (.int .i64 v)).heap[ad.block]? = W.heap[ad.block]? := fun ad e => Below.heap_setCell W ⟨go, s, none⟩ _ _ (h.far g hg ad e)
  exact ⟨hi.1, C_eq hi.2.1 hne, fun ad e => by
    obtain ⟨c, hc⟩ := hi.2.2 ad e
    exact ⟨c, (hne ad e).trans hc⟩⟩
theorem OutI.cell (h : OutI wb go c9 gh c10 l hv ds out W) {s : Nat} (hs : s < l.length) : W.cell? ⟨go, s, none⟩ = some (.int .i64 (out.getD s 0)) ∧ W.frozen? ⟨go, s, none⟩ = false := by
  have h1 := Kd.R_celln 0 h.outR (s : Int) (by omega) (by omega)
  rw [Int.toNat_natCast] at h1
  exact h1
theorem OutI.shut (h : OutI wb go c9 gh c10 l hv ds out W) (hk : ∀ k, k < W.heap.size → (∀ d ∈ ds, d.target ≠ .collected k) → W'.heap[k]? = W.heap[k]?) : Kd.R (Kd.int .i64) 3 W' wb.heap.size (fun _ => True) (.slice (some ⟨go, 0, none⟩) l.length c9) out :=
  Kd.R_mono (Kd.R_step (Kd.R_tight2 rfl h.outR) (fun q hq hl => hk q hl (fun d hd e => by
    obtain ⟨cs, hc⟩ := Kd.R_typed h.outR q hq.1.symm
    obtain ⟨D', e', _, hD'⟩ := h.marks.2 d hd
    rw [e'] at e
    injection e with e
    subst e
    rw [hc] at hD'
    injection hD' with h2
    cases h2))) (fun _ _ => trivial)
theorem outK_eq (hv : List G44) (n : Nat) (l : List Int) : outK hv n l = ((hv.map pl).take n).foldl (fun out p => bumps out p.2) (zerosL l) := by
  unfold outK
  rw [← List.map_take, List.foldl_map]
  rfl
end
end Go.Proofs.Ytdgpcjhincgijaa.Pr

