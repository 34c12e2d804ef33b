-- A text by hand (wip/limit).
import Derived.RangeFuncNested
import Derived.RangeFuncBound
import Derived.RangeFuncCalls
import Derived.RangeFuncLeaves
import Derived.RangeFuncBox
import Derived.Shelf.Abstract
import Derived.Shelf.RegionOpen
import Derived.OwnWalkIn
import Derived.TacticsInMore
import Derived.LoopNIn
import Derived.LoopIn
import Derived.Test.YtdgpcjhincgijaaPr0
import Derived.Test.YtdgpcjhincgijaaLm2
import Derived.Test.YtdgpcjhincgijaaLm3
import Derived.Test.YtdgpcjhincgijaaLm4
namespace Go.Proofs.Ytdgpcjhincgijaa.Pr
open Go.RowKit Go.Shelf Go.Proofs.YtdgpcjhincgijaaW.PrintWords Go.Proofs.YtdgpcjhincgijaaW.PrintLast Go.Proofs.YtdgpcjhincgijaaW.PrintMore
set_option linter.unusedVariables false
set_option linter.unusedSimpArgs false
/-! ### What a level's loop keeps -/
theorem keeps_below {B : Nat} {W W1 W2 : World} (h : KeepsFrom B W W1) (k : Below W1.heap.size W1 W2) : KeepsFrom B W W2 := h.trans ⟨k.size, fun i o _ hi _ => (k.block i (Array.getElem?_eq_some_iff.1 hi).1).trans hi⟩
theorem keeps_grown {B t : Nat} {W W1 W2 : World} {row : Option Nat} (h : KeepsFrom B W W1) (hg : W1.grownBy W2 row) (hr : ∀ k, row = some k → ∃ cells, W1.heap[k]? = some (.cells cells t (0, 0))) : KeepsFrom B W W2 :=
  h.trans ⟨hg.size, fun i o _ hi ho => (hg.block i (Array.getElem?_eq_some_iff.1 hi).1 (fun e => by
    obtain ⟨cells, hc⟩ := hr i e.symm
    rw [hc] at hi
    injection hi with hi
    subst hi
    cases ho)).trans hi⟩
/-- All that lay ahead of n₀ lies as it lay, but the box gn and the row own0. -/
def KpN (n₀ gn : Nat) (own0 : Option Nat) (W W' : World) : Prop := W.heap.size ≤ W'.heap.size ∧ KeepB (fun k => k < n₀ ∧ k ≠ gn ∧ some k ≠ own0) W W'
section
variable {n₀ gn : Nat} {own0 : Option Nat} {W W' W2 : World}
theorem KpN.refl (n₀ gn : Nat) (own0 : Option Nat) (W : World) : KpN n₀ gn own0 W W := ⟨Nat.le_refl _, KeepB.refl _ _⟩
theorem KpN.trans (h : KpN n₀ gn own0 W W') (k : KpN n₀ gn own0 W' W2) : KpN n₀ gn own0 W W2 := ⟨Nat.le_trans h.1 k.1, h.2.trans h.1 k.2⟩
theorem KpN.below (h : KpN n₀ gn own0 W W') (hb : Below W'.heap.size W' W2) : KpN n₀ gn own0 W W2 := h.trans ⟨hb.size, fun k _ hl => hb.block k hl⟩
theorem KpN.grown (h : KpN n₀ gn own0 W W') {row : Option Nat} (hg : W'.grownBy W2 row) (hr : ∀ k, row = some k → n₀ ≤ k ∨ k = gn ∨ some k = own0) : KpN n₀ gn own0 W W2 := h.trans ⟨hg.size, fun k ⟨h1, h2, h3⟩ hl => hg.block k hl (fun e => by rcases hr k e.symm with h | h | h <;> first | omega | exact h2 h | exact h3 h)⟩
theorem KpN.drew (W : World) : KpN n₀ gn own0 W W.drew := ⟨Nat.le_refl _, fun _ _ _ => rfl⟩
theorem KpN.put {n : Nat} (hl : n₀ ≤ n) {o o' : Obj} : KpN n₀ gn own0 W (W.putObj n o') := (KpN.refl _ _ _ _).grown (grownBy_putObj' W n o') (fun k e => by injection e with e; subst e; exact .inl hl)
theorem KpN.cell (h : KpN n₀ gn own0 W W') {p : Addr} (h1 : p.block < n₀) (h2 : p.block ≠ gn) (h3 : some p.block ≠ own0) {v : Value} (hv : W.cell? p = some v) : W'.cell? p = some v := h.2.cell ⟨h1, h2, h3⟩ hv
theorem KpN.blk (h : KpN n₀ gn own0 W W') {k : Nat} {o : Obj} (h1 : k < n₀) (h2 : k ≠ gn) (h3 : some k ≠ own0) (hv : W.heap[k]? = some o) : W'.heap[k]? = some o := (h.2 k ⟨h1, h2, h3⟩ (blk_lt hv)).trans hv
end
theorem InAt.kp {n₀ gn : Nat} {own0 : Option Nat} {W W' : World} {g : G44} (h : InAt W g) (hk : KpN n₀ gn own0 W W') (hn : W.heap.size ≤ n₀) (hg : ∃ cells, W.heap[gn]? = some (.cells cells 42 (0, 0))) (ho : ∀ k, own0 = some k → ∃ cells, W.heap[k]? = some (.cells cells 44 (0, 0))) : InAt W' g := h.eq fun k ⟨c, hc⟩ =>
  hk.2 k ⟨Nat.lt_of_lt_of_le (blk_lt hc) hn, fun e => by
    subst e
    obtain ⟨c2, hc2⟩ := hg
    rw [hc] at hc2
    injection hc2 with h2
    injection h2 with _ h2 _
    exact absurd h2 (by decide), fun e => by
    obtain ⟨c2, hc2⟩ := ho k e.symm
    rw [hc] at hc2
    injection hc2 with h2
    injection h2 with _ h2 _
    exact absurd h2 (by decide)⟩ (blk_lt hc)
def joinP (x : G44 × G44) : Int × List Int := (x.1.f0 + x.2.f0, x.1.l ++ x.2.l)
/-- While a level is made: the box of the next row, the row, what is new in it. -/
def NxI (wb W3 : World) (gn : Nat) (own0 : Option Nat) (cl : List G44) (pre : List (G44 × G44)) (W : World) : Prop :=
  ∃ v ns, W.heap[gn]? = some (.cells #[v] 42 (0, 0)) ∧ Kd.R kG 44 W wb.heap.size (fun k => some k = own0 ∨ W3.heap.size ≤ k) v (cl ++ ns) ∧ ns.map pl = pre.map joinP ∧ InAll W ns ∧ KpN W3.heap.size gn own0 W3 W ∧ Below wb.heap.size wb W ∧ ∀ g ∈ ns, ∀ ad, g.A = some ad → W3.heap.size ≤ ad.block
theorem grown_ne {B : Nat} {W W' : World} {row : Option Nat} (hr : ∀ r, row = some r → B ≤ r ∧ ∃ o : Obj, W.heap[r]? = some o ∧ o.isCells = false) {g t : Nat} {cells : Array Value} (h : W.heap[g]? = some (.cells cells t (0, 0))) : some g ≠ row := fun e => by
  obtain ⟨_, o, ho, hn⟩ := hr _ e.symm
  rw [h] at ho
  injection ho with ho
  subst ho
  cases hn
theorem nxI_own (wb W3 : World) (gn : Nat) (own0 : Option Nat) (cl : List G44) (hB : wb.heap.size ≤ W3.heap.size) : OwnFrom W3.heap.size (NxI wb W3 gn own0 cl) := by
  rintro pre W W' row ⟨v, ns, h1, h2, h3, h4, h5, h6, h7⟩ hg hr
  refine ⟨v, ns, blk_grown h1 hg (grown_ne (W' := W') hr h1), Kd.R_mono (Kd.R_grown (Kd.R_tight2 rfl h2) hg (fun k hk e2 => ?_)) (fun _ h => h.2), h3, fun g hg2 => (h4 g hg2).eq (fun k ⟨_, hc⟩ => hg.block k (blk_lt hc) (grown_ne (W' := W') hr hc)), h5.grown hg (fun k e => .inl (hr k e).1), ownFrom_below (β := List (G44 × G44)) (Nat.le_refl _) hB pre W W' row h6 hg hr, h7⟩
  obtain ⟨cells, hc⟩ := Kd.R_typed h2 k hk.1.symm
  exact grown_ne (W' := W') hr hc e2
/-! ### The marks that ranges over a function leave -/
def Marks (base : Nat) (W : World) (ds : List Deferred) : Prop := ds.Pairwise (fun a b => a.target ≠ b.target) ∧ ∀ d ∈ ds, ∃ D, d = { target := .collected D, args := #[] } ∧ base ≤ D ∧ W.heap[D]? = some (.deferred (some []))
theorem marks_nil (base : Nat) (W : World) : Marks base W [] := ⟨List.Pairwise.nil, fun _ h => by cases h⟩
theorem Marks.grown {base : Nat} {W W' : World} {ds : List Deferred} (h : Marks base W ds) {row : Option Nat} (hg : W.grownBy W' row) (hr : ∀ r, row = some r → ∃ cells t fr, W.heap[r]? = some (.cells cells t fr)) : Marks base W' ds := ⟨h.1, fun d hd => by
  obtain ⟨D, e, hb, hD⟩ := h.2 d hd
  refine ⟨D, e, hb, (hg.block D (blk_lt hD) fun e2 => ?_).trans hD⟩
  obtain ⟨c, t, fr, hc⟩ := hr D e2.symm
  rw [hD] at hc
  injection hc with hc
  cases hc⟩
theorem Marks.below {base : Nat} {W W' : World} {ds : List Deferred} (h : Marks base W ds) (hb : Below W.heap.size W W') : Marks base W' ds := ⟨h.1, fun d hd => by
  obtain ⟨D, e, hb2, hD⟩ := h.2 d hd
  exact ⟨D, e, hb2, (hb.block D (blk_lt hD)).trans hD⟩⟩
theorem Marks.kp {base n₀ gn : Nat} {own0 : Option Nat} {W W' : World} {ds : List Deferred} (h : Marks base W ds) (hk : KpN n₀ gn own0 W W') (hn : W.heap.size ≤ n₀) (hg : ∃ cells t fr, W.heap[gn]? = some (.cells cells t fr)) (ho : ∀ k, own0 = some k → ∃ cells t fr, W.heap[k]? = some (.cells cells t fr)) : Marks base W' ds := ⟨h.1, fun d hd => by
  obtain ⟨D, e, hb2, hD⟩ := h.2 d hd
  refine ⟨D, e, hb2, hk.blk (Nat.lt_of_lt_of_le (blk_lt hD) hn) (fun e2 => ?_) (fun e2 => ?_) hD⟩
  · subst e2
    obtain ⟨c, t, fr, hc⟩ := hg
    rw [hD] at hc
    injection hc with hc
    cases hc
  · obtain ⟨c, t, fr, hc⟩ := ho D e2.symm
    rw [hD] at hc
    injection hc with hc
    cases hc⟩
theorem Marks.cons {base : Nat} {W : World} {ds : List Deferred} (h : Marks base W ds) {D : Nat} (hb : base ≤ D) (hD : W.heap[D]? = some (.deferred (some []))) (hn : ∀ d ∈ ds, d.target ≠ .collected D) : Marks base W ({ target := .collected D, args := #[] } :: ds) := ⟨List.pairwise_cons.2 ⟨fun a ha => fun e => hn a ha e.symm, h.1⟩, fun d hd => by
  rcases List.mem_cons.1 hd with rfl | hd
  · exact ⟨D, rfl, hb, hD⟩
  · exact h.2 d hd⟩
/-- The function is left: the marks are shut, one by one. -/
theorem leaves_marks {F : Fence} {n : Nat} {P : Program} {fn : Func} {tmps : Array Value} {R : Ending → World → Prop} {base : Nat} : ∀ (ds : List Deferred) (W : World), Marks base W ds →
    (∀ W', (∀ k, k < W.heap.size → (∀ d ∈ ds, d.target ≠ .collected k) → W'.heap[k]? = W.heap[k]?) → W'.heap.size = W.heap.size → (∀ n₀, n₀ ≤ base → Below n₀ W W') → ∃ v, (results fn tmps).run P W' = .ok v W' ∧ R (.returned v) W') → LeavesInM F n P fn tmps R ds .returning W
  | [], W, _, h => h W (fun _ _ _ => rfl) rfl (fun n₀ _ => Below.refl _ _)
  | d :: ds, W, hM, h => by
    obtain ⟨D, e, hb, hD⟩ := hM.2 d (List.mem_cons_self)
    obtain ⟨hp1, hp2⟩ := List.pairwise_cons.1 hM.1
    refine ⟨by simp, .inl ⟨D, W.putObj D (.deferred none), by rw [e], run_takeDeferred hD, ?_⟩⟩
    have hg := grownBy_putObj' W D (.deferred none)
    have hsz : (W.putObj D (.deferred none)).heap.size = W.heap.size := by simp [World.putObj]
    refine leaves_marks (base := base) ds _ ⟨hp2, fun d2 hd2 => ?_⟩ (fun W' h1 h2 h3 => ?_)
    · obtain ⟨D2, e2, hb2, hD2⟩ := hM.2 d2 (List.mem_cons_of_mem _ hd2)
      refine ⟨D2, e2, hb2, (hg.block D2 (blk_lt hD2) fun e3 => ?_).trans hD2⟩
      injection e3 with e3
      subst e3
      exact hp1 d2 hd2 (by rw [e, e2])
    · refine h W' (fun k hk hn => ?_) (h2.trans hsz) (fun n₀ hn₀ => ((Below.refl n₀ W).grown hg (by have := blk_lt hD; omega) (fun k e => by injection e with e; subst e; omega)).trans (h3 n₀ hn₀))
      rw [h1 k (by rw [hsz]; exact hk) (fun d2 hd2 => hn d2 (List.mem_cons_of_mem _ hd2))]
      exact hg.block k hk (fun e3 => by injection e3 with e3; exact hn d List.mem_cons_self (by rw [e, e3]))
theorem ints_grown {W W' : World} {base : Nat} {ok : Nat → Prop} {v : Value} {xs : List Int} {row : Option Nat} (h : Kd.R (Kd.int .i64) 3 W base ok v xs) (hg : W.grownBy W' row) (hr : ∀ r, row = some r → ∃ cells, W.heap[r]? = some (.cells cells 44 (0, 0))) : Kd.R (Kd.int .i64) 3 W' base ok v xs :=
  Kd.R_mono (Kd.R_grown (Kd.R_tight2 rfl h) hg (fun k hk e => by
    obtain ⟨c, hc⟩ := Kd.R_typed h k hk.1.symm
    obtain ⟨c2, hc2⟩ := hr k e.symm
    rw [hc] at hc2
    injection hc2 with h2
    injection h2 with _ h2 _
    exact absurd h2 (by decide))) (fun _ h => h.2)
/-- What stands ahead of a level. -/
structure LevI (wb : World) (S : List (Int × List Int)) (sv : List G44) (g6 c6 go c9 : Nat) (l : List Int) (m j : Nat) (hv : List G44) (A10 : Option Addr) (c10 : Nat) (ds : List Deferred) (W : World) : Prop where
  le : j ≤ m
  rel : HaveRel S j (hv.map pl)
  bnd : ∀ g ∈ hv, 0 ≤ g.f0 ∧ g.f0 ≤ 4294967296 * 2 ^ j ∧ g.l.length ≤ 2 ^ j
  len : hv.length ≤ 2 * sv.length
  hvR : Kd.R kG 44 W wb.heap.size (fun _ => True) (.slice A10 hv.length c10) hv
  hvI : InAll W hv
  svR : Kd.R kG 44 W wb.heap.size (fun _ => True) (.slice (some ⟨g6, 0, none⟩) sv.length c6) sv
  svI : InAll W sv
  outR : Kd.R (Kd.int .i64) 3 W wb.heap.size (fun _ => True) (.slice (some ⟨go, 0, none⟩) l.length c9) (zerosL l)
  far : ∀ g, g ∈ hv ∨ g ∈ sv → ∀ ad, g.A = some ad → ad.block ≠ go
  marks : Marks wb.heap.size W ds
  below : Below wb.heap.size wb W
theorem kp_R44 {n₀ gn base : Nat} {own0 : Option Nat} {W W' : World} {v : Value} {d : List G44} (h : Kd.R kG 44 W base (fun _ => True) v d) (hk : KpN n₀ gn own0 W W') (hn : W.heap.size ≤ n₀) (hg : ∃ cells, W.heap[gn]? = some (.cells cells 42 (0, 0))) (ho : v.ownBlock ≠ own0 ∨ v.ownBlock = none) : Kd.R kG 44 W' base (fun _ => True) v d :=
  Kd.R_mono (Kd.R_step (Kd.R_tight2 rfl h) (fun k hk2 hl => hk.2 k ⟨Nat.lt_of_lt_of_le hl hn, fun e => by
    subst e
    obtain ⟨c, hc⟩ := Kd.R_typed h k hk2.1.symm
    obtain ⟨c2, hc2⟩ := hg
    rw [hc] at hc2
    injection hc2 with h2
    injection h2 with _ h2 _
    exact absurd h2 (by decide), fun e => by
    rcases ho with ho | ho
    · exact ho (hk2.1.symm.trans e)
    · rw [ho] at hk2; cases hk2.1⟩ hl)) (fun _ _ => trivial)
theorem kp_Rint {n₀ gn base : Nat} {own0 : Option Nat} {W W' : World} {v : Value} {d : List Int} (h : Kd.R (Kd.int .i64) 3 W base (fun _ => True) v d) (hk : KpN n₀ gn own0 W W') (hn : W.heap.size ≤ n₀) (hg : ∃ cells, W.heap[gn]? = some (.cells cells 42 (0, 0))) (ho : ∀ k, own0 = some k → ∃ cells, W.heap[k]? = some (.cells cells 44 (0, 0))) : Kd.R (Kd.int .i64) 3 W' base (fun _ => True) v d :=
  Kd.R_mono (Kd.R_step (Kd.R_tight2 rfl h) (fun k hk2 hl => hk.2 k ⟨Nat.lt_of_lt_of_le hl hn, fun e => by
    subst e
    obtain ⟨c, hc⟩ := Kd.R_typed h k hk2.1.symm
    obtain ⟨c2, hc2⟩ := hg
    rw [hc] at hc2
    injection hc2 with h2
    injection h2 with _ h2 _
    exact absurd h2 (by decide), fun e => by
    obtain ⟨c, hc⟩ := Kd.R_typed h k hk2.1.symm
    obtain ⟨c2, hc2⟩ := ho k e.symm
    rw [hc] at hc2
    injection hc2 with h2
    injection h2 with _ h2 _
    exact absurd h2 (by decide)⟩ hl)) (fun _ _ => trivial)
theorem InAt.set42 {W : World} {g : G44} {gn : Nat} {cs : Array Value} (h : InAt W g) (hg : W.heap[gn]? = some (.cells cs 42 (0, 0))) (i : Nat) (u : Value) : InAt (W.setCell ⟨gn, i, none⟩ u) g := h.eq fun k ⟨c, hc⟩ => Below.heap_setCell W ⟨gn, i, none⟩ u k (fun e => by
  have e : k = gn := e
  subst e
  rw [hc] at hg
  injection hg with h2
  injection h2 with _ h2 _
  exact absurd h2 (by decide))
theorem grownBy_set {W : World} (gn i : Nat) (u : Value) : W.grownBy (W.setCell ⟨gn, i, none⟩ u) (some gn) := ⟨rfl, rfl, rfl, by simp [World.setCell], fun k _ hne => Below.heap_setCell W ⟨gn, i, none⟩ u k (fun e => hne (by rw [show k = gn from e]))⟩
theorem two_cells {W : World} {r : Nat} {a b : Value} {t : TypeId} (h : W.heap[r]? = some (.cells #[a, b] t (0, 0))) : W.cell? ((⟨r, 0, none⟩ : Addr).add 0) = some a ∧ W.cell? ((⟨r, 0, none⟩ : Addr).add 1) = some b := ⟨(blk_cell h 0).trans rfl, (blk_cell h 1).trans rfl⟩
theorem InAt.len {W : World} {g : G44} (h : InAt W g) : g.n = g.l.length := h.1
theorem InAt.row {W : World} {g : G44} (h : InAt W g) : (Kd.int .i64).C W g.A g.l.length g.l := h.2.1
theorem two_at0 {W : World} {r : Nat} {x y : G44} (hx : InAt W x) (hy : InAt W y) {t : TypeId} (h : W.heap[r]? = some (.cells #[.slice x.A x.n x.c, .slice y.A y.n y.c] t (0, 0))) : W.cell? ((⟨r, 0, none⟩ : Addr).add 0) = some (.slice x.A x.l.length x.c) ∧ W.cell? ((⟨r, 0, none⟩ : Addr).add 1) = some (.slice y.A y.l.length y.c) := by
  rw [hx.1, hy.1] at h
  exact two_cells h
/-! ### A region that draws, in a round of a range over a function, by the steps of a region outside -/
theorem uponIn_of_upon {l n : Nat} {P : Program} {o : Oper} {a : Act} {K : Act → World → Prop} {Q : Exit → Act → World → Prop} {r : Result Next} (h : o.upon P a K Q r) : o.uponIn (Fence.wide.inRound l) n P a K Q r := by
  cases r with
  | ok x w' =>
    cases x with
    | enter f args => exact ⟨fun h => (by cases h), CallsIn.inRound l (callsIn_wide.2 h)⟩
    | row row args => exact ⟨fun h => (by cases h), fun c cs _ => let ⟨v, w2, r, s⟩ := h c cs; ⟨v, w2, r, stepsIn_wide.2 s⟩⟩
    | round l2 f tmps assign body => exact False.elim h
    | _ => exact h
  | halt x w' => cases x <;> exact h
theorem wpOpIn_of_wpOp {l n : Nat} {P : Program} {ops : Array Oper} {Q : Exit → Act → World → Prop} {i : Nat} {K K' : Act → World → Prop} {a : Act} {w : World} (hnd : ∀ o ∈ ops, ∀ c, o.op ≠ .defer c) (hno : ¬ LetsOut Q) (hK : ∀ a w, K a w → K' a w)
    (h : wpOp P ops Q i K a w) : wpOpIn (Fence.wide.inRound l) n P ops Q i K' a w := by
  unfold wpOp at h
  unfold wpOpIn
  cases ho : ops[i]? with
  | none => rw [ho] at h; exact hK _ _ h
  | some o =>
    rw [ho] at h
    dsimp only at h ⊢
    have hm : o ∈ ops := Array.mem_of_getElem? ho
    by_cases hw : Region.wanted o (yielded ops a.tmps) = true
    · rw [if_pos hw] at h ⊢
      refine Oper.wpIn_mono hK ?_
      refine ⟨fun f _ => trivial, ?_⟩
      rw [Oper.semAt_plain (Fence.wide.inRound l) _ _ (hnd o hm)]
      exact uponIn_of_upon (h.resolve_right (fun h => hno h.2))
    · rw [if_neg hw] at h ⊢
      exact ⟨fun f _ => trivial, hK _ _ h⟩
theorem wpAnyIn_of_wpAny {l n : Nat} {P : Program} {md : Region.Mode} {ops : Array Oper} {Q : Exit → Act → World → Prop} (hnd : ∀ o ∈ ops, ∀ c, o.op ≠ .defer c) (hno : ¬ LetsOut Q) : ∀ (fuel : Nat) (listed : Array Bool) (a : Act) (w : World), wpAny P md ops Q fuel listed a w → wpAnyIn (Fence.wide.inRound l) n P md ops Q fuel listed a w
  | 0, _, _, _, h => h
  | fuel + 1, listed, a, w, h => ⟨h.1, fun i hi => wpOpIn_of_wpOp hnd hno (fun a w h => wpAnyIn_of_wpAny hnd hno fuel _ a w h) (h.2 i hi)⟩
def noDefer (ops : Array Oper) : Bool := ops.all fun o => match o.op with | .defer _ => false | _ => true
theorem noDefer_spec {ops : Array Oper} (h : noDefer ops = true) : ∀ o ∈ ops, ∀ c, o.op ≠ .defer c := by
  intro o ho c e
  unfold noDefer at h
  rw [Array.all_eq_true'] at h
  have := h o ho
  rw [e] at this
  cases this
theorem start_in {lp k : Nat} {P : Program} {ops : Array Oper} {Q : Exit → Act → World → Prop} {S : World → Prop} {ds : List Nat} {id n : Nat} {a : Act} {w : World} (l : Array Bool) (hno : ¬ LetsOut Q) (hd : noDefer ops = true) (hm : P.follows .mixedOrders = true) (hn : ops.size = n) (hl : Array.replicate n false = l) (hS : S w.drew)
    (h : S w.drew → wpAnyLast P .any ops Q S ds n l a w.drew) : (Code.region id ops true).wpIn (Fence.wide.inRound lp) k P Q a w := by
  subst hn
  subst hl
  exact wpIn_region_any hm (wpAnyIn_of_wpAny (noDefer_spec hd) hno _ _ _ _ (wpAny_of_last _ _ _ _ (h hS)))
/-! ### A region in a function that holds a range over a function: nothing panics there -/
def noPanic (Q : Exit → Act → World → Prop) : Exit → Act → World → Prop
  | .panic _, _, _ => False
  | e, a, w => Q e a w
theorem region_wide {n : Nat} {P : Program} {c : Code} {Q : Exit → Act → World → Prop} {a : Act} {w : World} (h : c.wp P (noPanic Q) a w) : c.wpIn Fence.wide n P Q a w :=
  wpIn_mono (wpIn_wide.2 h) (fun e a w h => by cases e <;> first | exact h | exact h.elim)
theorem noPanic_normal {Q : Exit → Act → World → Prop} {a : Act} {w : World} (h : Q .normal a w) : noPanic Q .normal a w := h
end Go.Proofs.Ytdgpcjhincgijaa.Pr
