-- Texts by hand and by programs of this session, joined (wip/tool/merge.py).
import Derived.RangeFuncNested
import Derived.RangeFuncBound
import Derived.RangeFuncCalls
import Derived.RangeFuncLeaves
import Derived.RangeFuncBox
import Derived.Shelf.Abstract
import Derived.Shelf.RegionOpen
import Derived.OwnWalkIn
import Derived.TacticsInMore
import Derived.LoopNIn
import Derived.LoopIn
import Derived.Test.YthcndpdfcippiaaMHuffBW3
import Derived.Test.YthcndpdfcippiaaProg
import Derived.Below
import Derived.Deep.Draws
import Derived.Deep.AppendLies
import Derived.Maps.AppendAt
import Derived.OwnWalk
import Derived.Laws.BytesArg
import Derived.Laws.MakeOwn
import Derived.Laws.OwnMore
import Derived.Deep.OwnRows
import Derived.Tactics
import Derived.Lib.ConvBytes
import Derived.Laws.Slices
import Derived.WalkKit
import Derived.KernelRfl
import Derived.RowKit3
import Derived.Deep.LoopGhost
import Derived.Deep.QuietTactic
import Derived.BigQuiet
import Derived.WideLaws
import Derived.Deep.DeepCutAuto
import Derived.Deep.CutBlock
import Derived.Deep.RegionHeld3
import Derived.Laws.Rows
import Derived.Lib.AppendStr
import Derived.ArgAppend
import Derived.Laws.IdiomCopy
import Derived.OrdersHeld
import Derived.Laws.BitsLemmas
import Derived.RowKit
import Derived.Lib.SliceRun
import Derived.Laws.BitsAllLaws
import Derived.Test.YthcndpdfcippiaaMHuffBW1
import Derived.Test.YthcndpdfcippiaaMHuffBW2
-- YthcndpdfcippiaaHu7
namespace Go.Proofs.Ythcndpdfcippiaa.Hu
open Go.RowKit Go.Shelf Go.Proofs.YthcndpdfcippiaaW.PrintWords Go.Proofs.YthcndpdfcippiaaW.PrintLast Go.Proofs.YthcndpdfcippiaaW.PrintMore
set_option linter.unusedVariables false
set_option linter.unusedSimpArgs false
/-! ### A region that draws, in a round of a range over a function, by the steps of a region outside -/
theorem uponIn_of_upon {l n : Nat} {P : Program} {o : Oper} {a : Act} {K : Act → World → Prop} {Q : Exit → Act → World → Prop} {r : Result Next} (h : o.upon P a K Q r) : o.uponIn (Fence.wide.inRound l) n P a K Q r := by
  cases r with
  | ok x w' =>
    cases x with
    | enter f args => exact ⟨fun h => (by cases h), CallsIn.inRound l (callsIn_wide.2 h)⟩
    | row row args => exact ⟨fun h => (by cases h), fun c cs _ => let ⟨v, w2, r, s⟩ := h c cs; ⟨v, w2, r, stepsIn_wide.2 s⟩⟩
    | round l2 f tmps assign body => exact False.elim h
    | _ => exact h
  | halt x w' => cases x <;> exact h
theorem wpOpIn_of_wpOp {l n : Nat} {P : Program} {ops : Array Oper} {Q : Exit → Act → World → Prop} {i : Nat} {K K' : Act → World → Prop} {a : Act} {w : World} (hnd : ∀ o ∈ ops, ∀ c, o.op ≠ .defer c) (hno : ¬ LetsOut Q) (hK : ∀ a w, K a w → K' a w)
    (h : wpOp P ops Q i K a w) : wpOpIn (Fence.wide.inRound l) n P ops Q i K' a w := by
  unfold wpOp at h
  unfold wpOpIn
  cases ho : ops[i]? with
  | none => rw [ho] at h; exact hK _ _ h
  | some o =>
    rw [ho] at h
    dsimp only at h ⊢
    have hm : o ∈ ops := Array.mem_of_getElem? ho
    by_cases hw : Region.wanted o (yielded ops a.tmps) = true
    · rw [if_pos hw] at h ⊢
      refine Oper.wpIn_mono hK ?_
      refine ⟨fun f _ => trivial, ?_⟩
      rw [Oper.semAt_plain (Fence.wide.inRound l) _ _ (hnd o hm)]
      exact uponIn_of_upon (h.resolve_right (fun h => hno h.2))
    · rw [if_neg hw] at h ⊢
      exact ⟨fun f _ => trivial, hK _ _ h⟩
theorem wpAnyIn_of_wpAny {l n : Nat} {P : Program} {md : Region.Mode} {ops : Array Oper} {Q : Exit → Act → World → Prop} (hnd : ∀ o ∈ ops, ∀ c, o.op ≠ .defer c) (hno : ¬ LetsOut Q) : ∀ (fuel : Nat) (listed : Array Bool) (a : Act) (w : World), wpAny P md ops Q fuel listed a w → wpAnyIn (Fence.wide.inRound l) n P md ops Q fuel listed a w
  | 0, _, _, _, h => h
  | fuel + 1, listed, a, w, h => ⟨h.1, fun i hi => wpOpIn_of_wpOp hnd hno (fun a w h => wpAnyIn_of_wpAny hnd hno fuel _ a w h) (h.2 i hi)⟩
def noDefer (ops : Array Oper) : Bool := ops.all fun o => match o.op with | .defer _ => false | _ => true
theorem noDefer_spec {ops : Array Oper} (h : noDefer ops = true) : ∀ o ∈ ops, ∀ c, o.op ≠ .defer c := by
  intro o ho c e
  unfold noDefer at h
  rw [Array.all_eq_true'] at h
  have := h o ho
  rw [e] at this
  cases this
theorem start_in {lp k : Nat} {P : Program} {ops : Array Oper} {Q : Exit → Act → World → Prop} {S : World → Prop} {ds : List Nat} {id n : Nat} {a : Act} {w : World} (l : Array Bool) (hno : ¬ LetsOut Q) (hd : noDefer ops = true) (hm : P.follows .mixedOrders = true) (hn : ops.size = n) (hl : Array.replicate n false = l) (hS : S w.drew)
    (h : S w.drew → wpAnyLast P .any ops Q S ds n l a w.drew) : (Code.region id ops true).wpIn (Fence.wide.inRound lp) k P Q a w := by
  subst hn
  subst hl
  exact wpIn_region_any hm (wpAnyIn_of_wpAny (noDefer_spec hd) hno _ _ _ _ (wpAny_of_last _ _ _ _ (h hS)))
/-! ### A region in a function that holds a range over a function: nothing panics there -/
def noPanic (Q : Exit → Act → World → Prop) : Exit → Act → World → Prop
  | .panic _, _, _ => False
  | e, a, w => Q e a w
theorem region_wide {n : Nat} {P : Program} {c : Code} {Q : Exit → Act → World → Prop} {a : Act} {w : World} (h : c.wp P (noPanic Q) a w) : c.wpIn Fence.wide n P Q a w :=
  wpIn_mono (wpIn_wide.2 h) (fun e a w h => by cases e <;> first | exact h | exact h.elim)
theorem noPanic_normal {Q : Exit → Act → World → Prop} {a : Act} {w : World} (h : Q .normal a w) : noPanic Q .normal a w := h
theorem set17 {W : World} {g t : Nat} {c0 c1 c2 c3 c4 c5 c6 c7 c8 c9 c10 c11 c12 c13 c14 c15 c16 : Value} (h : W.heap[g]? = some (.cells #[c0, c1, c2, c3, c4, c5, c6, c7, c8, c9, c10, c11, c12, c13, c14, c15, c16] t (0, 0))) (v0 v1 v2 v3 v4 v5 v6 v7 v8 v9 v10 v11 v12 v13 v14 v15 : Value) :
    ((((((((((((((((W.setCell ⟨g, 0, none⟩ v0).setCell ⟨g, 1, none⟩ v1).setCell ⟨g, 2, none⟩ v2).setCell ⟨g, 3, none⟩ v3).setCell ⟨g, 4, none⟩ v4).setCell ⟨g, 5, none⟩ v5).setCell ⟨g, 6, none⟩ v6).setCell ⟨g, 7, none⟩ v7).setCell ⟨g, 8, none⟩ v8).setCell ⟨g, 9, none⟩ v9).setCell ⟨g, 10, none⟩ v10).setCell ⟨g, 11, none⟩ v11).setCell ⟨g, 12, none⟩ v12).setCell ⟨g, 13, none⟩ v13).setCell ⟨g, 14, none⟩ v14).setCell ⟨g, 15, none⟩ v15).heap[g]? = some (.cells #[v0, v1, v2, v3, v4, v5, v6, v7, v8, v9, v10, v11, v12, v13, v14, v15, c16] t (0, 0)) := by
  have h := blk_put h 0 v0 (cs' := #[v0, c1, c2, c3, c4, c5, c6, c7, c8, c9, c10, c11, c12, c13, c14, c15, c16]) rfl
  have h := blk_put h 1 v1 (cs' := #[v0, v1, c2, c3, c4, c5, c6, c7, c8, c9, c10, c11, c12, c13, c14, c15, c16]) rfl
  have h := blk_put h 2 v2 (cs' := #[v0, v1, v2, c3, c4, c5, c6, c7, c8, c9, c10, c11, c12, c13, c14, c15, c16]) rfl
  have h := blk_put h 3 v3 (cs' := #[v0, v1, v2, v3, c4, c5, c6, c7, c8, c9, c10, c11, c12, c13, c14, c15, c16]) rfl
  have h := blk_put h 4 v4 (cs' := #[v0, v1, v2, v3, v4, c5, c6, c7, c8, c9, c10, c11, c12, c13, c14, c15, c16]) rfl
  have h := blk_put h 5 v5 (cs' := #[v0, v1, v2, v3, v4, v5, c6, c7, c8, c9, c10, c11, c12, c13, c14, c15, c16]) rfl
  have h := blk_put h 6 v6 (cs' := #[v0, v1, v2, v3, v4, v5, v6, c7, c8, c9, c10, c11, c12, c13, c14, c15, c16]) rfl
  have h := blk_put h 7 v7 (cs' := #[v0, v1, v2, v3, v4, v5, v6, v7, c8, c9, c10, c11, c12, c13, c14, c15, c16]) rfl
  have h := blk_put h 8 v8 (cs' := #[v0, v1, v2, v3, v4, v5, v6, v7, v8, c9, c10, c11, c12, c13, c14, c15, c16]) rfl
  have h := blk_put h 9 v9 (cs' := #[v0, v1, v2, v3, v4, v5, v6, v7, v8, v9, c10, c11, c12, c13, c14, c15, c16]) rfl
  have h := blk_put h 10 v10 (cs' := #[v0, v1, v2, v3, v4, v5, v6, v7, v8, v9, v10, c11, c12, c13, c14, c15, c16]) rfl
  have h := blk_put h 11 v11 (cs' := #[v0, v1, v2, v3, v4, v5, v6, v7, v8, v9, v10, v11, c12, c13, c14, c15, c16]) rfl
  have h := blk_put h 12 v12 (cs' := #[v0, v1, v2, v3, v4, v5, v6, v7, v8, v9, v10, v11, v12, c13, c14, c15, c16]) rfl
  have h := blk_put h 13 v13 (cs' := #[v0, v1, v2, v3, v4, v5, v6, v7, v8, v9, v10, v11, v12, v13, c14, c15, c16]) rfl
  have h := blk_put h 14 v14 (cs' := #[v0, v1, v2, v3, v4, v5, v6, v7, v8, v9, v10, v11, v12, v13, v14, c15, c16]) rfl
  have h := blk_put h 15 v15 (cs' := #[v0, v1, v2, v3, v4, v5, v6, v7, v8, v9, v10, v11, v12, v13, v14, v15, c16]) rfl
  exact h
def tblV (cl : List Int) (v : Value) : Array Value := (cl.map (Value.int .i64) ++ [v]).toArray
/-- The used symbols. -/
def symsL (l : List Int) : List Int := (usedL l l.length).map fun x => (x.1 : Int)
/-- What New's second result is. -/
def newS (l : List Int) : Int := if checkS l = 2 then 2 else if checkS l ≠ 0 ∧ (checkS l ≠ 12 ∨ (symsL l).length ≠ 1 ∨ rd (countedS l).1 1 ≠ 1) then checkS l else 0
/-- A table of the call's own. -/
def TableOwn (w : World) (base g : Nat) (cl ss : List Int) : Prop := cl.length = 16 ∧ base ≤ g ∧ ∃ v, w.heap[g]? = some (.cells (tblV cl v) 70 (0, 0)) ∧ Kd.R (Kd.int .i64) 3 w base (fun _ => True) v ss
/-- What the sort does to the symbols: ss become ss'. -/
def OrderedAt (l ss ss' : List Int) : Prop := ∀ (W : World) (base gb : Nat) (v : Value) (A : Option Addr) (c : Nat), Kd.R (Kd.int .i64) 3 W base (fun _ => True) v ss → W.heap[gb]? = some (.cells #[.slice A l.length c] 22 (0, 0)) → (Kd.int .i64).C W A l.length l → (∀ ad, A = some ad → ad.block < base) →
  Calls Try.prog 36 #[v, .func (.func 37) #[] #[.pointer (some ⟨gb, 0, none⟩)]] W fun e W' => e = .returned (.tuple #[]) ∧ Kd.R (Kd.int .i64) 3 W' base (fun _ => True) v ss' ∧ W.grownBy W' v.ownBlock
def NewPost (l ss' : List Int) (w : World) (e : Ending) (w' : World) : Prop :=
  (newS l = 0 → ∃ g, e = .returned (.tuple #[.pointer (some ⟨g, 0, none⟩), .int .i64 0]) ∧ TableOwn w' w.heap.size g (countedS l).1 ss') ∧ (newS l ≠ 0 → e = .returned (.tuple #[.pointer none, .int .i64 (newS l)])) ∧ Below w.heap.size w w'
section
attribute [local go_sem] Oper.semAt_some
set_option maxRecDepth 100000 in
set_option maxHeartbeats 4000000 in
theorem new_arg (A : Option Addr) (c : Nat) (l ss' : List Int) (w : World) (hr : (Kd.int .i64).C w A l.length l) (hs : checkS l = 2) : Calls Try.prog 21 #[.slice A l.length c] w (NewPost l ss' w) := by
  have h2 : newS l = 2 := by unfold newS; rw [if_pos hs]
  have K := Aside0.mk (fun (w' : World) (hb : Below w.heap.size w w') => huff_Check_in A c l w' (Kd.C_below hr hb))
  rw [hs] at K
  unfold NewPost
  rw [h2]
  go_enter Try.func21, Try.ntmps21
  go_wp2_with (go_at_call 13; refine (K.out _ (below_alloc (Below.refl _ _) _)).mono ?_; rintro e_ w3 ⟨rfl, hb⟩; have HB := Aside0.mk hb; clear hb)
  go_ret2
  refine ⟨fun h => absurd h (by decide), fun _ => rfl, below_then (below_alloc (Below.refl _ _) _) (by rw [World.size_alloc]; omega) HB.out⟩
end
theorem tblV_last {W : World} {g t : Nat} {cl : List Int} {v : Value} (h : W.heap[g]? = some (.cells (tblV cl v) t (0, 0))) (hl : cl.length = 16) : W.cell? ⟨g, 16, none⟩ = some v := by
  rw [blk_cell h]
  unfold tblV
  rw [List.getElem?_toArray, List.getElem?_append_right (by simp; omega)]
  simp [hl]
theorem tblV_at {W : World} {g t : Nat} {cl : List Int} {v : Value} (h : W.heap[g]? = some (.cells (tblV cl v) t (0, 0))) (hl : cl.length = 16) (i : Nat) (hi : i < 16) : W.cell? ⟨g, i, none⟩ = some (.int .i64 (rd cl (i : Int))) := by
  rw [blk_cell h]
  unfold tblV rd
  rw [List.getElem?_toArray, List.getElem?_append_left (by simp; omega), List.getElem?_map, List.getD_eq_getElem?_getD, Int.toNat_natCast, List.getElem?_eq_getElem (show i < cl.length by omega)]
  rfl
theorem tblV_set {cl : List Int} (hl : cl.length = 16) (v u : Value) : (tblV cl v).setIfInBounds 16 u = tblV cl u := by
  unfold tblV
  rw [List.setIfInBounds_toArray, List.set_append_right _ _ (by simp; omega)]
  simp [hl]
theorem keeps_below {B : Nat} {W W1 W2 : World} (h : KeepsFrom B W W1) (k : Below W1.heap.size W1 W2) : KeepsFrom B W W2 := h.trans ⟨k.size, fun i o _ hi _ => (k.block i (Array.getElem?_eq_some_iff.1 hi).1).trans hi⟩
theorem keeps_grown {B : Nat} {W W1 W2 : World} {row : Option Nat} (h : KeepsFrom B W W1) (hg : W1.grownBy W2 row) (hr : ∀ k, row = some k → ∃ cells, W1.heap[k]? = some (.cells cells 3 (0, 0))) : KeepsFrom B W W2 :=
  h.trans ⟨hg.size, fun i o _ hi ho => (hg.block i (Array.getElem?_eq_some_iff.1 hi).1 (fun e => by
    obtain ⟨cells, hc⟩ := hr i e.symm
    rw [hc] at hi
    injection hi with hi
    subst hi
    cases ho)).trans hi⟩
def NewI (w : World) (cs : List Int) (A : Option Addr) (len c gt gb : Nat) (pre : List (Nat × Int)) (W : World) : Prop :=
  ∃ v, Kd.R (Kd.int .i64) 3 W w.heap.size (fun _ => True) v (pre.map fun x => (x.1 : Int)) ∧ W.heap[gt]? = some (.cells (tblV cs v) 70 (0, 0)) ∧ W.heap[gt + 1]? = some (.cells #[Value.pointer (some ⟨gt, 0, none⟩)] 44 (0, 0)) ∧ W.heap[gb]? = some (.cells #[Value.slice A len c] 22 (0, 0)) ∧ Below w.heap.size w W
theorem newI_own (w : World) (cs : List Int) (A : Option Addr) (len c gt gb B : Nat) (hB : w.heap.size ≤ B) : OwnFrom B (NewI w cs A len c gt gb) := by
  rintro pre W W' row ⟨v, h1, h2, h3, h4, h5⟩ hg hr
  have hne : ∀ {g t : Nat} {cells : Array Value}, W.heap[g]? = some (.cells cells t (0, 0)) → some g ≠ row := fun h e => by
    obtain ⟨_, o, ho, hn⟩ := hr _ e.symm
    rw [h] at ho
    injection ho with ho
    subst ho
    cases hn
  refine ⟨v, Kd.R_grown2 h1 rfl hg (fun k e e2 => ?_), blk_grown h2 hg (hne h2), blk_grown h3 hg (hne h3), blk_grown h4 hg (hne h4), ownFrom_below (β := List (Nat × Int)) (Nat.le_refl _) hB pre W W' row h5 hg hr⟩
  obtain ⟨cells, hc⟩ := Kd.R_typed h1 k e2.symm
  exact hne hc e.symm
section
attribute [local go_sem] Oper.semAt_some
set_option maxRecDepth 100000 in
set_option maxHeartbeats 8000000 in
theorem new_ok (A : Option Addr) (c : Nat) (l ss' : List Int) (w : World) (hr : (Kd.int .i64).C w A l.length l) (hs : ¬ checkS l = 2) (HS : OrderedAt l (symsL l) ss') : Calls Try.prog 21 #[.slice A l.length c] w (NewPost l ss' w) := by
  refine (callsIn_wide (n := 3)).1 ?_
  have hok : (countedS l).2 = true := by
    cases h : (countedS l).2 with
    | true => rfl
    | false => exact absurd (by unfold checkS; rw [if_pos h]) hs
  have hL : ¬ (l.length < 1 ∨ 288 < l.length) := fun h => by
    have : (countedS l).2 = false := by unfold countedS; rw [if_pos h]
    rw [this] at hok
    cases hok
  have hL2 : 1 ≤ l.length ∧ l.length ≤ 288 := by omega
  have HL := Aside0.mk hL2
  clear hL hL2
  have HR := Aside0.mk hr
  have K := Aside0.mk (fun (w' : World) (hb : Below w.heap.size w w') => huff_Check_in A c l w' (Kd.C_below hr hb))
  have K4 := Aside0.mk (fun (w' : World) (hb : Below w.heap.size w w') => huff_counted.calls A c l w' (Kd.C_below hr hb))
  unfold CountedPost at K4
  simp only [hok] at K4
  have hlen := countedS_len l
  have NS := Aside0.mk (show newS l = if checkS l ≠ 0 ∧ (checkS l ≠ 12 ∨ (symsL l).length ≠ 1 ∨ rd (countedS l).1 1 ≠ 1) then checkS l else 0 from by unfold newS; rw [if_neg hs])
  obtain ⟨ns, hns⟩ : ∃ n, newS l = n := ⟨_, rfl⟩
  unfold NewPost
  rw [hns] at NS ⊢
  clear hns
  obtain ⟨y, hy⟩ : ∃ y, checkS l = y := ⟨_, rfl⟩
  rw [hy] at NS K hs
  clear hy
  obtain ⟨cl, hcl⟩ : ∃ cl, (countedS l).1 = cl := ⟨_, rfl⟩
  rw [hcl] at hlen NS ⊢
  simp only [hcl] at K4
  obtain ⟨cs, hcs⟩ : ∃ cs, cl = cs := ⟨_, rfl⟩
  rw [hcs] at NS ⊢
  have hlen2 := hlen
  rw [hcs] at hlen2
  have HLEN := Aside0.mk hlen2
  have HCS := Aside0.mk hcs
  clear hok hcs hcl hlen2
  obtain ⟨x0, cl, rfl⟩ := List.exists_cons_of_length_pos (l := cl) (by omega)
  obtain ⟨x1, cl, rfl⟩ := List.exists_cons_of_length_pos (l := cl) (by simp only [List.length_cons] at hlen; omega)
  obtain ⟨x2, cl, rfl⟩ := List.exists_cons_of_length_pos (l := cl) (by simp only [List.length_cons] at hlen; omega)
  obtain ⟨x3, cl, rfl⟩ := List.exists_cons_of_length_pos (l := cl) (by simp only [List.length_cons] at hlen; omega)
  obtain ⟨x4, cl, rfl⟩ := List.exists_cons_of_length_pos (l := cl) (by simp only [List.length_cons] at hlen; omega)
  obtain ⟨x5, cl, rfl⟩ := List.exists_cons_of_length_pos (l := cl) (by simp only [List.length_cons] at hlen; omega)
  obtain ⟨x6, cl, rfl⟩ := List.exists_cons_of_length_pos (l := cl) (by simp only [List.length_cons] at hlen; omega)
  obtain ⟨x7, cl, rfl⟩ := List.exists_cons_of_length_pos (l := cl) (by simp only [List.length_cons] at hlen; omega)
  obtain ⟨x8, cl, rfl⟩ := List.exists_cons_of_length_pos (l := cl) (by simp only [List.length_cons] at hlen; omega)
  obtain ⟨x9, cl, rfl⟩ := List.exists_cons_of_length_pos (l := cl) (by simp only [List.length_cons] at hlen; omega)
  obtain ⟨x10, cl, rfl⟩ := List.exists_cons_of_length_pos (l := cl) (by simp only [List.length_cons] at hlen; omega)
  obtain ⟨x11, cl, rfl⟩ := List.exists_cons_of_length_pos (l := cl) (by simp only [List.length_cons] at hlen; omega)
  obtain ⟨x12, cl, rfl⟩ := List.exists_cons_of_length_pos (l := cl) (by simp only [List.length_cons] at hlen; omega)
  obtain ⟨x13, cl, rfl⟩ := List.exists_cons_of_length_pos (l := cl) (by simp only [List.length_cons] at hlen; omega)
  obtain ⟨x14, cl, rfl⟩ := List.exists_cons_of_length_pos (l := cl) (by simp only [List.length_cons] at hlen; omega)
  obtain ⟨x15, cl, rfl⟩ := List.exists_cons_of_length_pos (l := cl) (by simp only [List.length_cons] at hlen; omega)
  obtain rfl : cl = [] := List.eq_nil_of_length_eq_zero (by simp only [List.length_cons] at hlen; omega)
  clear hlen
  simp only [agg16, List.map_cons, List.map_nil] at K4
  have q2 : (y == 2) = false := beq_eq_false_iff_ne.mpr hs
  refine callsIn_of_wp_marks Try.func21 rfl trivial ?_ rfl
  simp only [Try.ntmps21, List.size_toArray, List.length_cons, List.length_nil, Nat.reduceAdd, Nat.reduceSub, Array.replicate_succ, Array.replicate_zero, List.push_toArray, List.append_toArray, List.nil_append, List.cons_append]
  gi_wp2_with (first
    | (refine ⟨trivial, ?_⟩; gi_at_call 13; refine (callsIn_wide.2 (K.out _ (below_alloc (Below.refl _ _) _))).mono ?_; rintro e_ w3 ⟨rfl, hb⟩; have HB := Aside0.mk (below_then (below_alloc (Below.refl w.heap.size w) (.cells #[.slice A l.length c] 22 (0, 0))) (by rw [World.size_alloc]; omega) hb); have BB := Aside0.mk (blk_below (blk_new w (.cells #[.slice A l.length c] 22 (0, 0))) hb); clear hb; have hcb : w3.cell? ⟨w.heap.size, 0, none⟩ = some (.slice A l.length c) := (blk_cell BB.out 0).trans rfl)
    )
  have hbt := blk_alloc (blk_new w3 (.cells #[Value.int IntKind.i64 0, Value.int IntKind.i64 0, Value.int IntKind.i64 0, Value.int IntKind.i64 0, Value.int IntKind.i64 0, Value.int IntKind.i64 0, Value.int IntKind.i64 0, Value.int IntKind.i64 0, Value.int IntKind.i64 0, Value.int IntKind.i64 0, Value.int IntKind.i64 0, Value.int IntKind.i64 0, Value.int IntKind.i64 0, Value.int IntKind.i64 0, Value.int IntKind.i64 0, Value.int IntKind.i64 0, Value.slice none 0 0] 70 (0, 0))) (.cells #[Value.pointer (some ⟨w3.heap.size, 0, none⟩)] 44 (0, 0))
  have hbv := blk_new (w3.alloc (.cells #[Value.int IntKind.i64 0, Value.int IntKind.i64 0, Value.int IntKind.i64 0, Value.int IntKind.i64 0, Value.int IntKind.i64 0, Value.int IntKind.i64 0, Value.int IntKind.i64 0, Value.int IntKind.i64 0, Value.int IntKind.i64 0, Value.int IntKind.i64 0, Value.int IntKind.i64 0, Value.int IntKind.i64 0, Value.int IntKind.i64 0, Value.int IntKind.i64 0, Value.int IntKind.i64 0, Value.int IntKind.i64 0, Value.slice none 0 0] 70 (0, 0))) (.cells #[Value.pointer (some ⟨w3.heap.size, 0, none⟩)] 44 (0, 0))
  simp only [World.size_alloc] at hbv
  have hbb := blk_alloc (blk_alloc BB.out (.cells #[Value.int IntKind.i64 0, Value.int IntKind.i64 0, Value.int IntKind.i64 0, Value.int IntKind.i64 0, Value.int IntKind.i64 0, Value.int IntKind.i64 0, Value.int IntKind.i64 0, Value.int IntKind.i64 0, Value.int IntKind.i64 0, Value.int IntKind.i64 0, Value.int IntKind.i64 0, Value.int IntKind.i64 0, Value.int IntKind.i64 0, Value.int IntKind.i64 0, Value.int IntKind.i64 0, Value.int IntKind.i64 0, Value.slice none 0 0] 70 (0, 0))) (.cells #[Value.pointer (some ⟨w3.heap.size, 0, none⟩)] 44 (0, 0))
  have hB0 := below_alloc (below_alloc HB.out (.cells #[Value.int IntKind.i64 0, Value.int IntKind.i64 0, Value.int IntKind.i64 0, Value.int IntKind.i64 0, Value.int IntKind.i64 0, Value.int IntKind.i64 0, Value.int IntKind.i64 0, Value.int IntKind.i64 0, Value.int IntKind.i64 0, Value.int IntKind.i64 0, Value.int IntKind.i64 0, Value.int IntKind.i64 0, Value.int IntKind.i64 0, Value.int IntKind.i64 0, Value.int IntKind.i64 0, Value.int IntKind.i64 0, Value.slice none 0 0] 70 (0, 0))) (.cells #[Value.pointer (some ⟨w3.heap.size, 0, none⟩)] 44 (0, 0))
  have hG := HB.out.size
  have hbl := blk_lt BB.out
  generalize ((w3.alloc (.cells #[Value.int IntKind.i64 0, Value.int IntKind.i64 0, Value.int IntKind.i64 0, Value.int IntKind.i64 0, Value.int IntKind.i64 0, Value.int IntKind.i64 0, Value.int IntKind.i64 0, Value.int IntKind.i64 0, Value.int IntKind.i64 0, Value.int IntKind.i64 0, Value.int IntKind.i64 0, Value.int IntKind.i64 0, Value.int IntKind.i64 0, Value.int IntKind.i64 0, Value.int IntKind.i64 0, Value.int IntKind.i64 0, Value.slice none 0 0] 70 (0, 0))).alloc (.cells #[Value.pointer (some ⟨w3.heap.size, 0, none⟩)] 44 (0, 0))) = W0 at hbt hbv hbb hB0 ⊢
  obtain ⟨gt, hgt⟩ : ∃ gt, w3.heap.size = gt := ⟨_, rfl⟩
  rw [hgt] at hbt hbv hG hbl ⊢
  obtain ⟨gb, hgb⟩ : ∃ gb, w.heap.size = gb := ⟨_, rfl⟩
  have hbb2 := hbb
  rw [hgb] at hbb2 hbl
  have GT := Aside0.mk hG
  have NTB := Aside0.mk (show gb ≠ gt by omega)
  have GB := Aside0.mk hgb
  clear HB BB hcb
  have HB := Aside0.mk (below_drew1 hB0)
  have BT := Aside0.mk (blk_drew hbt)
  have BV := Aside0.mk (blk_drew hbv)
  have BB := Aside0.mk (blk_drew hbb2)
  clear hB0 hbt hbv hbb hbb2
  rw [hgb]
  clear hgb hG hbl hgt
  refine region_wide ?_
  refine start_ (n := 9) (S := fun w' => w'.cell? ⟨gt + 1, 0, none⟩ = some (.pointer (some ⟨gt, 0, none⟩)) ∧ w'.cell? ⟨gb, 0, none⟩ = some (.slice A l.length c)) (ds := [8]) #[false, false, false, false, false, false, false, false, false] (by kernel_rfl) rfl rfl ⟨(blk_cell BV.out 0).trans rfl, (blk_cell BB.out 0).trans rfl⟩ (fun hHeld => ?_)
  generalize W0.drew = wd at HB BT BV BB hHeld ⊢
  refine take_ (i := 0) (N := some 15) (v := ?_) (a' := ?_) #[true, false, false, false, false, false, false, false, false] rfl rfl (by kernel_rfl) (fun _ _ _ h => h) (Or.inl ⟨by rfl, ?_⟩) hHeld ?_ ?_
  rotate_left
  · rintro w' ⟨s0, s1⟩
    go_simp
    with_reducible rfl
  rotate_left
  · simp only [Act.put, List.setIfInBounds_toArray, List.set_cons_zero, List.set_cons_succ, i64_w, i32_w, u8_w]
    rfl
  refine take_ (i := 1) (N := some 16) (v := ?_) (a' := ?_) #[true, true, false, false, false, false, false, false, false] rfl rfl (by kernel_rfl) (fun _ _ _ h => h) (Or.inl ⟨by rfl, ?_⟩) hHeld ?_ ?_
  rotate_left
  · rintro w' ⟨s0, s1⟩
    go_simp
    with_reducible rfl
  rotate_left
  · simp only [Act.put, List.setIfInBounds_toArray, List.set_cons_zero, List.set_cons_succ, i64_w, i32_w, u8_w]
    rfl
  refine one_ (i := 2) (N := some 17) #[true, true, true, false, false, false, false, false, false] rfl rfl (by kernel_rfl) (by decide) (fun K hK => ?_)
  refine goes_ Try.func25 (by kernel_rfl) rfl #[.slice A l.length c] (by rfl) rfl rfl (by simp only [List.map_toArray, List.map_cons, List.map_nil]; rfl) ?_
  with_reducible refine (K4.out _ HB.out).mono ?_
  rintro e w5 ⟨rfl, hb⟩
  refine ⟨_, rfl, ?_⟩
  have n0 := Aside0.mk (below_then HB.out HB.out.size hb)
  have n1 := Aside0.mk (blk_below BT.out hb)
  have n2 := Aside0.mk (blk_below BV.out hb)
  have n3 := Aside0.mk (blk_below BB.out hb)
  clear HB BT BV BB
  have HB := n0
  have BT := n1
  have BV := n2
  have BB := n3
  clear n0 n1 n2 n3
  clear hb
  refine hK.out _ _ ⟨(blk_cell BV.out 0).trans rfl, (blk_cell BB.out 0).trans rfl⟩ (fun hHeld => ?_)
  clear hK K
  refine norm_ (a' := ?_) ?_ ?_
  rotate_left
  · show Act.put _ (some 17) _ = _
    simp only [Act.put, List.setIfInBounds_toArray, List.set_cons_zero, List.set_cons_succ, i64_w, i32_w, u8_w]
    rfl
  refine pure_ (i := 3) (N := some 14) (v := ?_) (a' := ?_) #[true, true, true, true, false, false, false, false, false] rfl rfl (by kernel_rfl) (fun _ _ _ h => h) (Or.inl ⟨by rfl, ?_⟩) ?_ ?_
  rotate_left
  · intro w'
    go_simp
    with_reducible rfl
  rotate_left
  · simp only [Act.put, List.setIfInBounds_toArray, List.set_cons_zero, List.set_cons_succ, i64_w, i32_w, u8_w]
    rfl
  refine pure_ (i := 4) (N := some 18) (v := ?_) (a' := ?_) #[true, true, true, true, true, false, false, false, false] rfl rfl (by kernel_rfl) (fun _ _ _ h => h) (Or.inl ⟨by rfl, ?_⟩) ?_ ?_
  rotate_left
  · intro w'
    go_simp
    with_reducible rfl
  rotate_left
  · simp only [Act.put, List.setIfInBounds_toArray, List.set_cons_zero, List.set_cons_succ, i64_w, i32_w, u8_w]
    rfl
  refine pure_ (i := 5) (N := some 19) (v := ?_) (a' := ?_) #[true, true, true, true, true, true, false, false, false] rfl rfl (by kernel_rfl) (fun _ _ _ h => h) (Or.inl ⟨by rfl, ?_⟩) ?_ ?_
  rotate_left
  · intro w'
    go_simp
    with_reducible rfl
  rotate_left
  · simp only [Act.put, List.setIfInBounds_toArray, List.set_cons_zero, List.set_cons_succ, i64_w, i32_w, u8_w]
    rfl
  refine pure_ (i := 6) (N := some 20) (v := ?_) (a' := ?_) #[true, true, true, true, true, true, true, false, false] rfl rfl (by kernel_rfl) (fun _ _ _ h => h) (Or.inl ⟨by rfl, ?_⟩) ?_ ?_
  rotate_left
  · intro w'
    go_simp
    with_reducible rfl
  rotate_left
  · simp only [Act.put, List.setIfInBounds_toArray, List.set_cons_zero, List.set_cons_succ, i64_w, i32_w, u8_w]
    rfl
  refine pure_ (i := 7) (N := some 21) (v := ?_) (a' := ?_) #[true, true, true, true, true, true, true, true, false] rfl rfl (by kernel_rfl) (fun _ _ _ h => h) (Or.inl ⟨by rfl, ?_⟩) ?_ ?_
  rotate_left
  · intro w'
    go_simp
    with_reducible rfl
  rotate_left
  · simp only [Act.put, List.setIfInBounds_toArray, List.set_cons_zero, List.set_cons_succ, i64_w, i32_w, u8_w]
    rfl
  refine last_ (i := 8) (N := none) #[true, true, true, true, true, true, true, true, true] rfl rfl (by kernel_rfl) (by decide) (fun K hK => ?_)
  have hz0 : w5.cell? ⟨gt, 0, none⟩ = some (.int .i64 0) := (blk_cell BT.out 0).trans rfl
  have hz1 : w5.cell? ⟨gt, 1, none⟩ = some (.int .i64 0) := (blk_cell BT.out 1).trans rfl
  have hz2 : w5.cell? ⟨gt, 2, none⟩ = some (.int .i64 0) := (blk_cell BT.out 2).trans rfl
  have hz3 : w5.cell? ⟨gt, 3, none⟩ = some (.int .i64 0) := (blk_cell BT.out 3).trans rfl
  have hz4 : w5.cell? ⟨gt, 4, none⟩ = some (.int .i64 0) := (blk_cell BT.out 4).trans rfl
  have hz5 : w5.cell? ⟨gt, 5, none⟩ = some (.int .i64 0) := (blk_cell BT.out 5).trans rfl
  have hz6 : w5.cell? ⟨gt, 6, none⟩ = some (.int .i64 0) := (blk_cell BT.out 6).trans rfl
  have hz7 : w5.cell? ⟨gt, 7, none⟩ = some (.int .i64 0) := (blk_cell BT.out 7).trans rfl
  have hz8 : w5.cell? ⟨gt, 8, none⟩ = some (.int .i64 0) := (blk_cell BT.out 8).trans rfl
  have hz9 : w5.cell? ⟨gt, 9, none⟩ = some (.int .i64 0) := (blk_cell BT.out 9).trans rfl
  have hz10 : w5.cell? ⟨gt, 10, none⟩ = some (.int .i64 0) := (blk_cell BT.out 10).trans rfl
  have hz11 : w5.cell? ⟨gt, 11, none⟩ = some (.int .i64 0) := (blk_cell BT.out 11).trans rfl
  have hz12 : w5.cell? ⟨gt, 12, none⟩ = some (.int .i64 0) := (blk_cell BT.out 12).trans rfl
  have hz13 : w5.cell? ⟨gt, 13, none⟩ = some (.int .i64 0) := (blk_cell BT.out 13).trans rfl
  have hz14 : w5.cell? ⟨gt, 14, none⟩ = some (.int .i64 0) := (blk_cell BT.out 14).trans rfl
  have hz15 : w5.cell? ⟨gt, 15, none⟩ = some (.int .i64 0) := (blk_cell BT.out 15).trans rfl
  have hf0 := blk_frozen BT.out 0
  have hf1 := blk_frozen BT.out 1
  have hf2 := blk_frozen BT.out 2
  have hf3 := blk_frozen BT.out 3
  have hf4 := blk_frozen BT.out 4
  have hf5 := blk_frozen BT.out 5
  have hf6 := blk_frozen BT.out 6
  have hf7 := blk_frozen BT.out 7
  have hf8 := blk_frozen BT.out 8
  have hf9 := blk_frozen BT.out 9
  have hf10 := blk_frozen BT.out 10
  have hf11 := blk_frozen BT.out 11
  have hf12 := blk_frozen BT.out 12
  have hf13 := blk_frozen BT.out 13
  have hf14 := blk_frozen BT.out 14
  have hf15 := blk_frozen BT.out 15
  refine skip_ (w1 := ?_) (by rfl) rfl ?_ ?_
  rotate_left
  · go_simp
    rfl
  refine hK.out _ _ ?_
  clear hK K
  refine done_ (by kernel_rfl) ?_
  refine noPanic_normal ?_
  have bT := set17 BT.out (Value.int IntKind.i64 x0) (Value.int IntKind.i64 x1) (Value.int IntKind.i64 x2) (Value.int IntKind.i64 x3) (Value.int IntKind.i64 x4) (Value.int IntKind.i64 x5) (Value.int IntKind.i64 x6) (Value.int IntKind.i64 x7) (Value.int IntKind.i64 x8) (Value.int IntKind.i64 x9) (Value.int IntKind.i64 x10) (Value.int IntKind.i64 x11) (Value.int IntKind.i64 x12) (Value.int IntKind.i64 x13) (Value.int IntKind.i64 x14) (Value.int IntKind.i64 x15)
  have bV := set16_far BV.out (show gt + 1 ≠ gt by omega) (Value.int IntKind.i64 x0) (Value.int IntKind.i64 x1) (Value.int IntKind.i64 x2) (Value.int IntKind.i64 x3) (Value.int IntKind.i64 x4) (Value.int IntKind.i64 x5) (Value.int IntKind.i64 x6) (Value.int IntKind.i64 x7) (Value.int IntKind.i64 x8) (Value.int IntKind.i64 x9) (Value.int IntKind.i64 x10) (Value.int IntKind.i64 x11) (Value.int IntKind.i64 x12) (Value.int IntKind.i64 x13) (Value.int IntKind.i64 x14) (Value.int IntKind.i64 x15)
  have bB := set16_far BB.out NTB.out (Value.int IntKind.i64 x0) (Value.int IntKind.i64 x1) (Value.int IntKind.i64 x2) (Value.int IntKind.i64 x3) (Value.int IntKind.i64 x4) (Value.int IntKind.i64 x5) (Value.int IntKind.i64 x6) (Value.int IntKind.i64 x7) (Value.int IntKind.i64 x8) (Value.int IntKind.i64 x9) (Value.int IntKind.i64 x10) (Value.int IntKind.i64 x11) (Value.int IntKind.i64 x12) (Value.int IntKind.i64 x13) (Value.int IntKind.i64 x14) (Value.int IntKind.i64 x15)
  have hB := set16_below HB.out GT.out (Value.int IntKind.i64 x0) (Value.int IntKind.i64 x1) (Value.int IntKind.i64 x2) (Value.int IntKind.i64 x3) (Value.int IntKind.i64 x4) (Value.int IntKind.i64 x5) (Value.int IntKind.i64 x6) (Value.int IntKind.i64 x7) (Value.int IntKind.i64 x8) (Value.int IntKind.i64 x9) (Value.int IntKind.i64 x10) (Value.int IntKind.i64 x11) (Value.int IntKind.i64 x12) (Value.int IntKind.i64 x13) (Value.int IntKind.i64 x14) (Value.int IntKind.i64 x15)
  clear hz0 hf0 hz1 hf1 hz2 hf2 hz3 hf3 hz4 hf4 hz5 hf5 hz6 hf6 hz7 hf7 hz8 hf8 hz9 hf9 hz10 hf10 hz11 hf11 hz12 hf12 hz13 hf13 hz14 hf14 hz15 hf15 hHeld
  generalize ((((((((((((((((w5.setCell ⟨gt, 0, none⟩ (Value.int IntKind.i64 x0)).setCell ⟨gt, 1, none⟩ (Value.int IntKind.i64 x1)).setCell ⟨gt, 2, none⟩ (Value.int IntKind.i64 x2)).setCell ⟨gt, 3, none⟩ (Value.int IntKind.i64 x3)).setCell ⟨gt, 4, none⟩ (Value.int IntKind.i64 x4)).setCell ⟨gt, 5, none⟩ (Value.int IntKind.i64 x5)).setCell ⟨gt, 6, none⟩ (Value.int IntKind.i64 x6)).setCell ⟨gt, 7, none⟩ (Value.int IntKind.i64 x7)).setCell ⟨gt, 8, none⟩ (Value.int IntKind.i64 x8)).setCell ⟨gt, 9, none⟩ (Value.int IntKind.i64 x9)).setCell ⟨gt, 10, none⟩ (Value.int IntKind.i64 x10)).setCell ⟨gt, 11, none⟩ (Value.int IntKind.i64 x11)).setCell ⟨gt, 12, none⟩ (Value.int IntKind.i64 x12)).setCell ⟨gt, 13, none⟩ (Value.int IntKind.i64 x13)).setCell ⟨gt, 14, none⟩ (Value.int IntKind.i64 x14)).setCell ⟨gt, 15, none⟩ (Value.int IntKind.i64 x15)) = W2 at bT bV bB hB ⊢
  have bT := show W2.heap[gt]? = some (.cells (tblV [x0, x1, x2, x3, x4, x5, x6, x7, x8, x9, x10, x11, x12, x13, x14, x15] (Value.slice none 0 0)) 70 (0, 0)) from bT
  rw [HCS.out] at bT
  have hcb : W2.cell? ⟨gb, 0, none⟩ = some (.slice A l.length c) := (blk_cell bB 0).trans rfl
  generalize (Value.agg #[Value.int IntKind.i64 x0, Value.int IntKind.i64 x1, Value.int IntKind.i64 x2, Value.int IntKind.i64 x3, Value.int IntKind.i64 x4, Value.int IntKind.i64 x5, Value.int IntKind.i64 x6, Value.int IntKind.i64 x7, Value.int IntKind.i64 x8, Value.int IntKind.i64 x9, Value.int IntKind.i64 x10, Value.int IntKind.i64 x11, Value.int IntKind.i64 x12, Value.int IntKind.i64 x13, Value.int IntKind.i64 x14, Value.int IntKind.i64 x15]) = vagg
  generalize (Value.tuple #[vagg, Value.bool true]) = vtup
  clear HB BT BV BB
  gi_wp2_with (refine ⟨trivial, ?_⟩; gi_at_call 26; refine (used_in Fence.wide 2 trivial rfl _ _ _ _).mono ?_; rintro e w' ⟨rfl, rfl⟩)
  have bC := blk_new W2 (.cells #[Value.slice A l.length c] 22 (0, 0))
  have bT3 := blk_alloc bT (.cells #[Value.slice A l.length c] 22 (0, 0))
  have bV3 := blk_alloc bV (.cells #[Value.slice A l.length c] 22 (0, 0))
  have bB3 := blk_alloc bB (.cells #[Value.slice A l.length c] 22 (0, 0))
  have hB3 := below_alloc hB (.cells #[Value.slice A l.length c] 22 (0, 0))
  have hsz : (W2.alloc (.cells #[Value.slice A l.length c] 22 (0, 0))).heap.size = W2.heap.size + 1 := by simp only [World.size_alloc]
  generalize W2.alloc (.cells #[Value.slice A l.length c] 22 (0, 0)) = W3 at bC bT3 bV3 bB3 hB3 hsz ⊢
  have hHL := HL.out
  have hle := hB.size
  have hbl : ∀ ad, A = some ad → ad.block < w.heap.size := fun ad e => by
    subst e
    obtain ⟨ad', e, hx⟩ := Kd.at_int hr 0 (by omega) (by omega)
    injection e with e
    subst e
    exact World.block_lt_of_cell? w _ hx
  refine wpIn_rangeFunc_ownG rfl (by decide) (gf := 41) (lb := #[.pointer (some ⟨W2.heap.size, 0, none⟩)]) rfl trivial (enters_of Try.func41 (by kernel_rfl) rfl)
    (used_stops Fence.wide 2 trivial rfl (by omega) W2.heap.size w.heap.size A l.length c l rfl (by omega) hbl W3 (blk_lt bC) (by omega) ((blk_cell bC 0).trans rfl) (Kd.C_below hr hB3)) belowK_t (belowK_b (by omega)) (Below.refl _ _) (fun _ => rfl)
    (NewI w cs A l.length c gt gb) (fun _ _ _ => False) (newI_own w cs A l.length c gt gb _ (by omega)) (fun c => fun _ _ _ _ h _ _ => h)
    ⟨.slice none 0 0, Kd.R_nil _ _ _ _ _, bT3, bV3, bB3, hB3⟩ ?_ ?assign ?body ?done ?stop
  case assign =>
    intro l x W K hK
    gi_wp2
    exact hK
  case stop =>
    rintro D c pre W hD _ hF
    exact hF.elim
  case body =>
    rintro lp pre ⟨sym, yv⟩ W ⟨v, hO, hT, hV, hBB, hB4⟩ hlt
    have hm : (pre ++ [(sym, yv)]).map (fun x => (x.1 : Int)) = pre.map (fun x => (x.1 : Int)) ++ [(sym : Int)] := by rw [List.map_append]; rfl
    have hml : (pre.map (fun x => (x.1 : Int))).length = pre.length := List.length_map _
    have HN := Aside0.mk hB4.size
    generalize pre.map (fun x => (x.1 : Int)) = ss at hO hml hm
    have HM := Aside0.mk hm
    have LM := Aside0.mk (show ss.length < 288 by omega)
    obtain ⟨A0, c0, ev⟩ := Kd.R_slice hO
    subst ev
    gi_wp2
    have HO := Aside0.mk (Kd.R_drew hO)
    have BT := Aside0.mk (blk_drew hT)
    have BV := Aside0.mk (blk_drew hV)
    have BB := Aside0.mk (blk_drew hBB)
    have HBk := Aside0.mk (below_drew1 (Below.refl w.heap.size W))
    have HK := Aside0.mk (show KeepsFrom W3.heap.size W W.drew from (KeepsOthers.drew W).from _)
    have HB4 := Aside0.mk hB4
    clear hO hT hV hBB hB4 hm hml hlt
    refine start_in (n := 11) (S := fun w' => w'.cell? ⟨gt + 1, 0, none⟩ = some (.pointer (some ⟨gt, 0, none⟩)) ∧ w'.cell? ⟨gt, 16, none⟩ = some (.slice A0 ss.length c0)) (ds := [10]) #[false, false, false, false, false, false, false, false, false, false, false] (fun ⟨_, _, h⟩ => h) (by kernel_rfl) (by kernel_rfl) rfl rfl ⟨(blk_cell BV.out 0).trans rfl, tblV_last BT.out HLEN.out⟩ (fun hHeld => ?_)
    generalize W.drew = wd at HO BT BV BB HBk HK hHeld ⊢
    refine pure_ (i := 5) (N := some 31) (v := ?_) (a' := ?_) #[false, false, false, false, false, true, false, false, false, false, false] rfl rfl (by kernel_rfl) (fun _ _ _ h => h) (Or.inl ⟨by rfl, ?_⟩) ?_ ?_
    rotate_left
    · intro w'
      go_simp
      with_reducible rfl
    rotate_left
    · simp only [Act.put, List.setIfInBounds_toArray, List.set_cons_zero, List.set_cons_succ, i64_w, i32_w, u8_w]
      rfl
    refine take_ (i := 0) (N := some 26) (v := ?_) (a' := ?_) #[true, false, false, false, false, true, false, false, false, false, false] rfl rfl (by kernel_rfl) (fun _ _ _ h => h) (Or.inl ⟨by rfl, ?_⟩) hHeld ?_ ?_
    rotate_left
    · rintro w' ⟨s0, s1⟩
      go_simp
      with_reducible rfl
    rotate_left
    · simp only [Act.put, List.setIfInBounds_toArray, List.set_cons_zero, List.set_cons_succ, i64_w, i32_w, u8_w]
      rfl
    refine take_ (i := 1) (N := some 27) (v := ?_) (a' := ?_) #[true, true, false, false, false, true, false, false, false, false, false] rfl rfl (by kernel_rfl) (fun _ _ _ h => h) (Or.inl ⟨by rfl, ?_⟩) hHeld ?_ ?_
    rotate_left
    · rintro w' ⟨s0, s1⟩
      go_simp
      with_reducible rfl
    rotate_left
    · simp only [Act.put, List.setIfInBounds_toArray, List.set_cons_zero, List.set_cons_succ, i64_w, i32_w, u8_w]
      rfl
    refine pure_ (i := 2) (N := some 28) (v := ?_) (a' := ?_) #[true, true, true, false, false, true, false, false, false, false, false] rfl rfl (by kernel_rfl) (fun _ _ _ h => h) (Or.inl ⟨by rfl, ?_⟩) ?_ ?_
    rotate_left
    · intro w'
      go_simp
      with_reducible rfl
    rotate_left
    · simp only [Act.put, List.setIfInBounds_toArray, List.set_cons_zero, List.set_cons_succ, i64_w, i32_w, u8_w]
      rfl
    refine pure_ (i := 3) (N := some 29) (v := ?_) (a' := ?_) #[true, true, true, true, false, true, false, false, false, false, false] rfl rfl (by kernel_rfl) (fun _ _ _ h => h) (Or.inl ⟨by rfl, ?_⟩) ?_ ?_
    rotate_left
    · intro w'
      go_simp
      with_reducible rfl
    rotate_left
    · simp only [Act.put, List.setIfInBounds_toArray, List.set_cons_zero, List.set_cons_succ, i64_w, i32_w, u8_w]
      rfl
    refine take_ (i := 4) (N := some 30) (v := ?_) (a' := ?_) #[true, true, true, true, true, true, false, false, false, false, false] rfl rfl (by kernel_rfl) (fun _ _ _ h => h) (Or.inl ⟨by rfl, ?_⟩) hHeld ?_ ?_
    rotate_left
    · rintro w' ⟨s0, s1⟩
      go_simp
      with_reducible rfl
    rotate_left
    · simp only [Act.put, List.setIfInBounds_toArray, List.set_cons_zero, List.set_cons_succ, i64_w, i32_w, u8_w]
      rfl
    refine one_ (i := 6) (N := some 32) #[true, true, true, true, true, true, true, false, false, false, false] rfl rfl (by kernel_rfl) (by decide) (fun K hK => ?_)
    refine Kd.R_lit_step (Kd.int .i64) _ 3 ?hg (N := 32) ?hd (xs := ([(sym : Int)] : List Int)) (inner := [.int .i64 (sym : Int)]) (ok := fun _ => True) (okp := fun _ => True) ?hr ?hp (fun _ hk => hk) trivial (Below.refl _ _) (Nat.le_refl _) (by simp) ?_; (case hd => rfl); (case hg => rfl); (case hr => first | (go_simp; done) | (go_simp; rfl)); (case hp => exact (Reps.snoc (Reps.none _ _) rfl rfl))
    intro v1 w1 ho1 hb hg_ hnew_
    obtain ⟨A1, c1, eo1⟩ := Kd.R_slice ho1
    subst eo1
    have n0 := Aside0.mk ((Kd.R_reads' ho1).2.2)
    have n1 := Aside0.mk (Kd.R_below HO.out hb)
    have n2 := Aside0.mk (blk_below BT.out hb)
    have n3 := Aside0.mk (blk_below BV.out hb)
    have n4 := Aside0.mk (blk_below BB.out hb)
    have n5 := Aside0.mk (below_then HBk.out (Nat.le_trans HN.out HBk.out.size) hb)
    have n6 := Aside0.mk (keeps_below HK.out hb)
    clear HO BT BV BB HBk HK
    have HL1 := n0
    have HO := n1
    have BT := n2
    have BV := n3
    have BB := n4
    have HBk := n5
    have HK := n6
    clear n0 n1 n2 n3 n4 n5 n6
    clear hb hg_ hnew_ ho1
    refine hK.out _ _ ⟨(blk_cell BV.out 0).trans rfl, tblV_last BT.out HLEN.out⟩ (fun hHeld => ?_)
    clear hK K
    refine norm_ (a' := ?_) ?_ ?_
    rotate_left
    · show Act.put _ (some 32) _ = _
      simp only [Act.put, List.setIfInBounds_toArray, List.set_cons_zero, List.set_cons_succ, i64_w, i32_w, u8_w]
      rfl
    refine one_ (i := 7) (N := some 33) #[true, true, true, true, true, true, true, true, false, false, false] rfl rfl (by kernel_rfl) (by decide) (fun K hK => ?_)
    refine Kd.R_append_rows_step (Kd.int .i64) (w0 := W) w.heap.size (by rfl) (.tmp 30) (.tmp 32) 22 3 (.int .i64 0) 8 rfl Try.underlying22 info3 rfl (by decide) (by omega) (.slice A0 ss.length c0) ss [(sym : Int)] _ _ _ (fun _ => True) (fun _ => False) rfl rfl HO.out HL1.out (fun _ _ h => h) (fun _ h => h.elim) (fun _ _ => trivial) HBk.out (Nat.le_trans HN.out HBk.out.size) ?aL ?_
    (case aL => have := LM.out; simp; omega)
    intro v2 w2 ho hb hg hat
    have n0 := Aside0.mk (keeps_grown HK.out hg (Kd.R_typed HO.out))
    have n1 := Aside0.mk (blk_grown BT.out hg (Kd.R_ne HO.out BT.out (by decide)))
    have n2 := Aside0.mk (blk_grown BV.out hg (Kd.R_ne HO.out BV.out (by decide)))
    have n3 := Aside0.mk (blk_grown BB.out hg (Kd.R_ne HO.out BB.out (by decide)))
    have n4 := Aside0.mk (ho)
    have n5 := Aside0.mk (hb)
    clear HO BT BV BB HBk HK HL1
    have HK := n0
    have BT := n1
    have BV := n2
    have BB := n3
    have HO := n4
    have HBk := n5
    clear n0 n1 n2 n3 n4 n5
    clear ho hb hg hat
    obtain ⟨A2, c2, eo2⟩ := Kd.R_slice HO.out
    subst eo2
    refine hK.out _ _ ⟨(blk_cell BV.out 0).trans rfl, tblV_last BT.out HLEN.out⟩ (fun hHeld => ?_)
    clear hK K
    refine norm_ (a' := ?_) ?_ ?_
    rotate_left
    · show Act.put _ (some 33) _ = _
      simp only [Act.put, List.setIfInBounds_toArray, List.set_cons_zero, List.set_cons_succ, i64_w, i32_w, u8_w]
      rfl
    refine pure_ (i := 8) (N := some 34) (v := ?_) (a' := ?_) #[true, true, true, true, true, true, true, true, true, false, false] rfl rfl (by kernel_rfl) (fun _ _ _ h => h) (Or.inl ⟨by rfl, ?_⟩) ?_ ?_
    rotate_left
    · intro w'
      go_simp
      with_reducible rfl
    rotate_left
    · simp only [Act.put, List.setIfInBounds_toArray, List.set_cons_zero, List.set_cons_succ, i64_w, i32_w, u8_w]
      rfl
    refine pure_ (i := 9) (N := some 35) (v := ?_) (a' := ?_) #[true, true, true, true, true, true, true, true, true, true, false] rfl rfl (by kernel_rfl) (fun _ _ _ h => h) (Or.inl ⟨by rfl, ?_⟩) ?_ ?_
    rotate_left
    · intro w'
      go_simp
      with_reducible rfl
    rotate_left
    · simp only [Act.put, List.setIfInBounds_toArray, List.set_cons_zero, List.set_cons_succ, i64_w, i32_w, u8_w]
      rfl
    refine last_ (i := 10) (N := none) #[true, true, true, true, true, true, true, true, true, true, true] rfl rfl (by kernel_rfl) (by decide) (fun K hK => ?_)
    have hz := tblV_last BT.out HLEN.out
    have hf := blk_frozen BT.out 16
    refine skip_ (w1 := ?_) (by rfl) rfl ?_ ?_
    rotate_left
    · go_simp
      rfl
    refine hK.out _ _ ?_
    clear hK K
    refine done_ (by kernel_rfl) ?_
    gi_wp2
    refine ⟨HK.out.trans ((KeepsOthers.setCell _ _ _).from _), HBk.out.setCell (p := ⟨gt, 16, none⟩) GT.out _, .slice A2 (ss.length + 1) c2, ?_, blk_put BT.out 16 _ (tblV_set HLEN.out _ _), blk_far (p := ⟨gt, 16, none⟩) BV.out (show gt + 1 ≠ gt by omega) _, blk_far (p := ⟨gt, 16, none⟩) BB.out NTB.out _, HB4.out.trans (HBk.out.setCell (p := ⟨gt, 16, none⟩) GT.out _)⟩
    have hlx : (ss ++ [(sym : Int)]).length = ss.length + 1 := by rw [List.length_append]; rfl
    have hx := HO.out
    rw [hlx] at hx
    rw [HM.out]
    exact Kd.R_mono (Kd.R_far (p := ⟨gt, 16, none⟩) (Kd.R_types hx BT.out (by decide)) (fun _ hk => hk.2) _) (fun _ hk => trivial)
  case done =>
    rintro D xs W hD rfl ⟨v, hO, hT, hV, hBB, hB4⟩ hK
    replace hO : Kd.R (Kd.int .i64) 3 W w.heap.size (fun _ => True) v (symsL l) := hO
    obtain ⟨A5, c5, ev⟩ := Kd.R_slice hO
    subst ev
    have HSA := Aside0.mk (HS W w.heap.size gb (.slice A5 (symsL l).length c5) A c hO hBB (Kd.C_below hr hB4) hbl)
    have hND : some D ≠ (Value.slice A5 (symsL l).length c5).ownBlock := fun e => by
      obtain ⟨cells, hc⟩ := Kd.R_typed hO D e.symm
      rw [hK] at hc
      cases hc
    have HK := Aside0.mk hK
    have HND := Aside0.mk hND
    have HT := Aside0.mk hT
    have HV := Aside0.mk hV
    have HO := Aside0.mk hO
    have HB4 := Aside0.mk hB4
    have HDN := Aside0.mk (show w.heap.size ≤ D by omega)
    have hct : W.cell? ⟨gt + 1, 0, none⟩ = some (.pointer (some ⟨gt, 0, none⟩)) := (blk_cell hV 0).trans rfl
    have hcs := tblV_last hT HLEN.out
    obtain ⟨n, hn⟩ : ∃ n, (symsL l).length = n := ⟨_, rfl⟩
    have HN := Aside0.mk hn
    rw [hn] at NS hcs HSA HND HT HO
    clear hK hND hT hV hO hB4 hBB hD hn
    by_cases y0 : y = 0
    · subst y0
      have hns : ns = 0 := by rw [NS.out, if_neg (fun h => h.1 rfl)]
      gi_wp2_with (refine ⟨trivial, ?_⟩; gi_at_call 36; refine (callsIn_wide.2 HSA.out).mono ?_; rintro e_ W5 ⟨rfl, hO5, hg5⟩; have HO5 := Aside0.mk hO5; have HT5 := Aside0.mk (blk_grown HT.out hg5 (Kd.R_ne HO.out HT.out (by decide))); have HV5 := Aside0.mk (blk_grown HV.out hg5 (Kd.R_ne HO.out HV.out (by decide))); have HK5 := Aside0.mk (blk_grown HK.out hg5 HND.out); have HB5 := Aside0.mk (pw_below_grown HB4.out _ HB4.out.size hg5 (fun k e => by obtain ⟨inner, ho⟩ := Kd.R_own HO.out; exact own_base ho k e)); clear hO5 hg5 hct hcs; have hct5 : W5.cell? ⟨gt + 1, 0, none⟩ = some (.pointer (some ⟨gt, 0, none⟩)) := (blk_cell HV5.out 0).trans rfl; have hcs5 := tblV_last HT5.out HLEN.out; have hc15 := tblV_at HT5.out HLEN.out 1 (by decide))
      any_goals (exfalso; rename_i hx_ hy_; exact absurd hx_ (by unfold undef; simp))
      refine ⟨by simp, .inl ⟨_, _, rfl, run_takeDeferred HK5.out, ?_⟩⟩
      have hgD := grownBy_putObj' W5 D (.deferred none)
      have hBf := HB5.out.trans (belowK_b (w := w) (Nat.le_refl _) W5 D _ (.deferred none) HDN.out HK5.out rfl rfl)
      have e2 := blk_grown HT5.out hgD (by intro e; injection e with e; have h5 := HT5.out; rw [e, HK5.out] at h5; cases h5)
      have e3 := Kd.R_grown2 HO5.out rfl hgD (fun k e => by injection e with e; subst e; exact HND.out)
      refine ⟨.tuple #[.pointer (some ⟨gt, 0, none⟩), .int .i64 0], ?_, ⟨fun _ => ⟨gt, rfl, HLEN.out, GT.out, _, e2, e3⟩, fun h => absurd hns h, hBf⟩⟩
      first | rfl | (simp [results, Try.f21]; done)
    · have y0b : (y == 0) = false := beq_eq_false_iff_ne.mpr y0
      have y0c : (y != 0) = true := bne_iff_ne.mpr y0
      by_cases y12 : y = 12
      · subst y12
        by_cases n1 : n = 1
        · subst n1
          by_cases r1 : rd cs 1 = 1
          · have r1b : (rd cs 1 == 1) = true := beq_iff_eq.mpr r1
            have r1c : (rd cs 1 != 1) = false := bne_eq_false_iff_eq.mpr r1
            have hns : ns = 0 := by rw [NS.out, if_neg (fun h => h.2.elim (fun h => h rfl) (fun h => h.elim (fun h => h rfl) (fun h => h r1)))]
            clear r1
            gi_wp2_with (refine ⟨trivial, ?_⟩; gi_at_call 36; refine (callsIn_wide.2 HSA.out).mono ?_; rintro e_ W5 ⟨rfl, hO5, hg5⟩; have HO5 := Aside0.mk hO5; have HT5 := Aside0.mk (blk_grown HT.out hg5 (Kd.R_ne HO.out HT.out (by decide))); have HV5 := Aside0.mk (blk_grown HV.out hg5 (Kd.R_ne HO.out HV.out (by decide))); have HK5 := Aside0.mk (blk_grown HK.out hg5 HND.out); have HB5 := Aside0.mk (pw_below_grown HB4.out _ HB4.out.size hg5 (fun k e => by obtain ⟨inner, ho⟩ := Kd.R_own HO.out; exact own_base ho k e)); clear hO5 hg5 hct hcs; have hct5 : W5.cell? ⟨gt + 1, 0, none⟩ = some (.pointer (some ⟨gt, 0, none⟩)) := (blk_cell HV5.out 0).trans rfl; have hcs5 := tblV_last HT5.out HLEN.out; have hc15 := tblV_at HT5.out HLEN.out 1 (by decide))
            refine ⟨by simp, .inl ⟨_, _, rfl, run_takeDeferred HK5.out, ?_⟩⟩
            have hgD := grownBy_putObj' W5 D (.deferred none)
            have hBf := HB5.out.trans (belowK_b (w := w) (Nat.le_refl _) W5 D _ (.deferred none) HDN.out HK5.out rfl rfl)
            have e2 := blk_grown HT5.out hgD (by intro e; injection e with e; have h5 := HT5.out; rw [e, HK5.out] at h5; cases h5)
            have e3 := Kd.R_grown2 HO5.out rfl hgD (fun k e => by injection e with e; subst e; exact HND.out)
            refine ⟨.tuple #[.pointer (some ⟨gt, 0, none⟩), .int .i64 0], ?_, ⟨fun _ => ⟨gt, rfl, HLEN.out, GT.out, _, e2, e3⟩, fun h => absurd hns h, hBf⟩⟩
            first | rfl | (simp [results, Try.f21]; done)
          · have r1b : (rd cs 1 == 1) = false := beq_eq_false_iff_ne.mpr r1
            have r1c : (rd cs 1 != 1) = true := bne_iff_ne.mpr r1
            have hns : ns = 12 := by rw [NS.out, if_pos ⟨by decide, .inr (.inr r1)⟩]
            clear r1
            gi_wp2_with (refine ⟨trivial, ?_⟩; gi_at_call 36; refine (callsIn_wide.2 HSA.out).mono ?_; rintro e_ W5 ⟨rfl, hO5, hg5⟩; have HO5 := Aside0.mk hO5; have HT5 := Aside0.mk (blk_grown HT.out hg5 (Kd.R_ne HO.out HT.out (by decide))); have HV5 := Aside0.mk (blk_grown HV.out hg5 (Kd.R_ne HO.out HV.out (by decide))); have HK5 := Aside0.mk (blk_grown HK.out hg5 HND.out); have HB5 := Aside0.mk (pw_below_grown HB4.out _ HB4.out.size hg5 (fun k e => by obtain ⟨inner, ho⟩ := Kd.R_own HO.out; exact own_base ho k e)); clear hO5 hg5 hct hcs; have hct5 : W5.cell? ⟨gt + 1, 0, none⟩ = some (.pointer (some ⟨gt, 0, none⟩)) := (blk_cell HV5.out 0).trans rfl; have hcs5 := tblV_last HT5.out HLEN.out; have hc15 := tblV_at HT5.out HLEN.out 1 (by decide))
            refine ⟨by simp, .inl ⟨_, _, rfl, run_takeDeferred HK5.out, ?_⟩⟩
            have hgD := grownBy_putObj' W5 D (.deferred none)
            have hBf := HB5.out.trans (belowK_b (w := w) (Nat.le_refl _) W5 D _ (.deferred none) HDN.out HK5.out rfl rfl)
            refine ⟨.tuple #[.pointer none, .int .i64 12], ?_, ⟨fun h => absurd h (by rw [hns]; decide), fun _ => by rw [hns], hBf⟩⟩
            first | rfl | (simp [results, Try.f21]; done)
        · have n1b : ((n : Int) == 1) = false := beq_eq_false_iff_ne.mpr (by omega)
          have n1c : ((n : Int) != 1) = true := bne_iff_ne.mpr (by omega)
          have n1d := eq_false n1
          have hns : ns = 12 := by rw [NS.out, if_pos ⟨by decide, .inr (.inl n1)⟩]
          gi_wp2_with (refine ⟨trivial, ?_⟩; gi_at_call 36; refine (callsIn_wide.2 HSA.out).mono ?_; rintro e_ W5 ⟨rfl, hO5, hg5⟩; have HO5 := Aside0.mk hO5; have HT5 := Aside0.mk (blk_grown HT.out hg5 (Kd.R_ne HO.out HT.out (by decide))); have HV5 := Aside0.mk (blk_grown HV.out hg5 (Kd.R_ne HO.out HV.out (by decide))); have HK5 := Aside0.mk (blk_grown HK.out hg5 HND.out); have HB5 := Aside0.mk (pw_below_grown HB4.out _ HB4.out.size hg5 (fun k e => by obtain ⟨inner, ho⟩ := Kd.R_own HO.out; exact own_base ho k e)); clear hO5 hg5 hct hcs; have hct5 : W5.cell? ⟨gt + 1, 0, none⟩ = some (.pointer (some ⟨gt, 0, none⟩)) := (blk_cell HV5.out 0).trans rfl; have hcs5 := tblV_last HT5.out HLEN.out; have hc15 := tblV_at HT5.out HLEN.out 1 (by decide))
          refine ⟨by simp, .inl ⟨_, _, rfl, run_takeDeferred HK5.out, ?_⟩⟩
          have hgD := grownBy_putObj' W5 D (.deferred none)
          have hBf := HB5.out.trans (belowK_b (w := w) (Nat.le_refl _) W5 D _ (.deferred none) HDN.out HK5.out rfl rfl)
          refine ⟨.tuple #[.pointer none, .int .i64 12], ?_, ⟨fun h => absurd h (by rw [hns]; decide), fun _ => by rw [hns], hBf⟩⟩
          first | rfl | (simp [results, Try.f21]; done)
      · have y1b : (y == 12) = false := beq_eq_false_iff_ne.mpr y12
        have y1c : (y != 12) = true := bne_iff_ne.mpr y12
        have hns : ns = y := by rw [NS.out, if_pos ⟨y0, .inl y12⟩]
        gi_wp2_with (refine ⟨trivial, ?_⟩; gi_at_call 36; refine (callsIn_wide.2 HSA.out).mono ?_; rintro e_ W5 ⟨rfl, hO5, hg5⟩; have HO5 := Aside0.mk hO5; have HT5 := Aside0.mk (blk_grown HT.out hg5 (Kd.R_ne HO.out HT.out (by decide))); have HV5 := Aside0.mk (blk_grown HV.out hg5 (Kd.R_ne HO.out HV.out (by decide))); have HK5 := Aside0.mk (blk_grown HK.out hg5 HND.out); have HB5 := Aside0.mk (pw_below_grown HB4.out _ HB4.out.size hg5 (fun k e => by obtain ⟨inner, ho⟩ := Kd.R_own HO.out; exact own_base ho k e)); clear hO5 hg5 hct hcs; have hct5 : W5.cell? ⟨gt + 1, 0, none⟩ = some (.pointer (some ⟨gt, 0, none⟩)) := (blk_cell HV5.out 0).trans rfl; have hcs5 := tblV_last HT5.out HLEN.out; have hc15 := tblV_at HT5.out HLEN.out 1 (by decide))
        refine ⟨by simp, .inl ⟨_, _, rfl, run_takeDeferred HK5.out, ?_⟩⟩
        have hgD := grownBy_putObj' W5 D (.deferred none)
        have hBf := HB5.out.trans (belowK_b (w := w) (Nat.le_refl _) W5 D _ (.deferred none) HDN.out HK5.out rfl rfl)
        refine ⟨.tuple #[.pointer none, .int .i64 y], ?_, ⟨fun h => absurd h (by rw [hns]; exact y0), fun _ => by rw [hns], hBf⟩⟩
        first | rfl | (simp [results, Try.f21]; done)
end
theorem huff_New_in (A : Option Addr) (c : Nat) (l ss' : List Int) (w : World) (hr : (Kd.int .i64).C w A l.length l) (HS : OrderedAt l (symsL l) ss') : Calls Try.prog 21 #[.slice A l.length c] w (NewPost l ss' w) := by
  by_cases h : checkS l = 2
  · exact new_arg A c l ss' w hr h
  · exact new_ok A c l ss' w hr h HS
/-! ### The sort of at most one element -/
section
set_option maxRecDepth 100000 in
set_option maxHeartbeats 2000000 in
theorem insertion_one (A : Option Addr) (n c : Nat) (hn : n ≤ 1) (f : Value) (w : World) : Calls Try.prog 50 #[.slice A n c, .int .i64 0, .int .i64 (n : Int), f] w fun e w' => e = .returned (.tuple #[]) ∧ w' = w := by
  have q1 := eq_false (show ¬ (1 : Int) < (n : Int) by omega)
  have q2 := eq_false (show ¬ 1 < n by omega)
  go_enter Try.func50, Try.ntmps50
  go_wp2
  refine wp_loop_rounds 1 ?_
  rw [rounds_succ]
  go_wp2
  go_end0
  exact ⟨rfl, rfl⟩
set_option maxRecDepth 100000 in
set_option maxHeartbeats 2000000 in
theorem stable_one (A : Option Addr) (n c : Nat) (hn : n ≤ 1) (f : Value) (w : World) : Calls Try.prog 49 #[.slice A n c, .int .i64 (n : Int), f] w fun e w' => e = .returned (.tuple #[]) ∧ w' = w := by
  have q1 := eq_false (show ¬ (20 : Int) ≤ (n : Int) by omega)
  have q2 := eq_false (show ¬ 20 ≤ n by omega)
  have q3 := eq_false (show ¬ (20 : Int) < (n : Int) by omega)
  have q4 := eq_false (show ¬ 20 < n by omega)
  go_enter Try.func49, Try.ntmps49
  go_wp2
  refine wp_loop_rounds 1 ?_
  rw [rounds_succ]
  go_wp2_with (go_at_call 50; refine (insertion_one A n c hn f w).mono ?_; rintro e_ w3 ⟨rfl, rfl⟩)
  refine wp_loop_rounds 1 ?_
  rw [rounds_succ]
  go_wp2
  go_end0
  exact ⟨rfl, rfl⟩
set_option maxRecDepth 100000 in
set_option maxHeartbeats 2000000 in
theorem sort_one (A : Option Addr) (n c : Nat) (hn : n ≤ 1) (f : Value) (w : World) : Calls Try.prog 44 #[.slice A n c, f] w fun e w' => e = .returned (.tuple #[]) ∧ w' = w := by
  go_enter Try.func44, Try.ntmps44
  go_wp2_with (go_at_call 49; refine (stable_one A n c hn f w).mono ?_; rintro e_ w3 ⟨rfl, rfl⟩)
  go_end0
  exact ⟨rfl, rfl⟩
set_option maxRecDepth 100000 in
set_option maxHeartbeats 2000000 in
theorem ordered_one (l ss : List Int) (hn : ss.length ≤ 1) : OrderedAt l ss ss := by
  intro W base gb v A c hO _ _ _
  obtain ⟨A0, c0, ev⟩ := Kd.R_slice hO
  subst ev
  have HO := Aside0.mk hO
  clear hO
  go_enter Try.func36, Try.ntmps36
  go_wp2_with (go_at_call 44; refine (sort_one A0 ss.length c0 hn _ _).mono ?_; rintro e_ w3 ⟨rfl, rfl⟩)
  go_end0
  have hb := below_alloc (Below.refl W.heap.size W) (.cells #[.func (.func 37) #[] #[.pointer (some ⟨gb, 0, none⟩)]] 72 (0, 0))
  exact ⟨rfl, Kd.R_below HO.out hb, grown_of_below hb _⟩
end
end Go.Proofs.Ythcndpdfcippiaa.Hu

-- YthcndpdfcippiaaPr0
namespace Go.Proofs.Ythcndpdfcippiaa.Pr
open Go.RowKit Go.Proofs.YthcndpdfcippiaaW.PrintWords Go.Proofs.YthcndpdfcippiaaW.PrintLast Go.Proofs.YthcndpdfcippiaaW.PrintMore
attribute [local go_sem] max2_int min2_int max_two min_two max_three min_three max_four min_four   -- for this text's walks alone
set_option linter.unusedVariables false
set_option linter.unusedSimpArgs false

theorem u8_w (n : Int) : IntKind.u8.wrap n = n % 256 := IntKind.wrap_u8 n



def errW : Option Int → Value
  | none => .nilIface
  | some c => .iface 0 (.int .i64 c)
theorem errW_none : errW none = .nilIface := rfl
theorem errW_some (c : Int) : errW (some c) = .iface 0 (.int .i64 c) := rfl

theorem info3 : (Try.prog.info? 3).map (fun i => (i.zero, i.size, i.bytes)) = some (some (.int .i64 0), 1, 8) := by kernel_rfl
theorem info5 : (Try.prog.info? 5).map (fun i => (i.zero, i.size, i.bytes)) = some (some (.int .u8 0), 1, 1) := by kernel_rfl
-- the values' own types

end Go.Proofs.Ythcndpdfcippiaa.Pr

-- YthcndpdfcippiaaPr7
namespace Go.Proofs.Ythcndpdfcippiaa.Pr
open Go.RowKit Go.Proofs.YthcndpdfcippiaaW.PrintWords Go.Proofs.YthcndpdfcippiaaW.PrintLast Go.Proofs.YthcndpdfcippiaaW.PrintMore
attribute [local go_sem] max2_int min2_int max_two min_two max_three min_three max_four min_four   -- for this text's walks alone
set_option linter.unusedVariables false
set_option linter.unusedSimpArgs false

/-! ### bits_Check: function 30 -/
def bits_Check.j0 : Nat → Bool → List Int → Int → Option (Int)
  | 0, _, _, _ => none
  | k + 1, x20, x122000, x122001 => if x20 = true then (some 2) else (if (Go.bits .and .i64 x122001 7) = 0 then (some 0) else (if 0 ≤ (wrap64 ((x122000.length : Int) - 1)) then (if (wrap64 ((x122000.length : Int) - 1)) < (x122000.length : Int) then (if 0 ≤ (Go.bits .and .i64 x122001 7) then (if (shr .u8 (rd x122000 (wrap64 ((x122000.length : Int) - 1))) (Go.bits .and .i64 x122001 7)) = 0 then (some 0) else (some 2)) else (none)) else (none)) else (none)))
def bits_Check.f (k : Nat) (l0_0 : List Int) (a0_1 : Int) : Option (Int) := if a0_1 < 0 then (bits_Check.j0 k true l0_0 a0_1) else (bits_Check.j0 k ((l0_0.length : Int) != (wrap64 ((a0_1 / 8) + ((wrap64 ((Go.bits .and .i64 a0_1 7) + 7)) / 8)))) l0_0 a0_1)
theorem bits_Check.mono_l : ∀ k, (∀ y0 y1 y2, LeO (bits_Check.j0 k y0 y1 y2) (bits_Check.j0 (k + 1) y0 y1 y2))
  | 0 => fun _ _ _ r h => by simp [bits_Check.j0] at h
  | k + 1 => by
    have ih0 := bits_Check.mono_l k
    · intro y0 y1 y2
      unfold bits_Check.j0
      repeat' first
      | (with_reducible exact ih0 _ _ _)
      | (with_reducible exact LeO.refl _)
      | (with_reducible exact LeO.none _)
      | (with_reducible refine LeO.ite ?_ ?_)
      | (with_reducible refine LeO.bind ?_ (fun _ => ?_))
      | exact ih0 _ _ _
      | exact LeO.none _
      | refine LeO.ite ?_ ?_
      | refine LeO.bind ?_ (fun _ => ?_)
theorem bits_Check.mono : ∀ a0 a1 k, LeO (bits_Check.f k a0 a1) (bits_Check.f (k + 1) a0 a1) := by
  intro a0 a1 k
  have ih0 := bits_Check.mono_l k
  unfold bits_Check.f
  repeat' first
      | (with_reducible exact ih0 _ _ _)
      | (with_reducible exact LeO.refl _)
      | (with_reducible exact LeO.none _)
      | (with_reducible refine LeO.ite ?_ ?_)
      | (with_reducible refine LeO.bind ?_ (fun _ => ?_))
      | exact ih0 _ _ _
      | exact LeO.none _
      | refine LeO.ite ?_ ?_
      | refine LeO.bind ?_ (fun _ => ?_)
set_option maxHeartbeats 8000000 in
set_option maxRecDepth 100000 in
theorem bits_Check.calls (k : Nat) (A0_0 : Option Addr) (c0_0 : Nat) (l0_0 : List Int) (a0_1 : Int) (r : Int) (w : World) (hr0_0 : Kd.C (Kd.int .u8) w A0_0 l0_0.length l0_0) (hc0_0 : l0_0.length ≤ c0_0) (h : bits_Check.f k l0_0 a0_1 = some r) :
    Calls Try.prog 30 #[.agg #[.slice A0_0 l0_0.length c0_0, .int .i64 a0_1]] w fun e w' => e = .returned (.int .i64 r) ∧ Below w.heap.size w w' := by
  have hu36 := Try.underlying36
  have HR0_0 := Aside0.mk hr0_0
  have HC0_0 := Aside0.mk hc0_0
  clear hr0_0 hc0_0
  have HB := Aside0.mk (Below.refl w.heap.size w)
  have H : (if a0_1 < 0 then (bits_Check.j0 k true l0_0 a0_1) else (bits_Check.j0 k ((l0_0.length : Int) != (wrap64 ((a0_1 / 8) + ((wrap64 ((Go.bits .and .i64 a0_1 7) + 7)) / 8)))) l0_0 a0_1)) = some r := h
  clear h
  have HC2 := Aside0.mk H
  clear H
  go_enter Try.func30, Try.ntmps30
  go_upto_region 1 with (first | ((with_reducible refine gate_dst (N := 1) rfl ?_); (try (refine gate_guard (by rfl) ?_; dsimp only)); refine box_event ?hg (N := 1) ?hd (cs := #[.slice A0_0 l0_0.length c0_0, .int .i64 a0_1]) (t := 36) ?hr ?_; (case hd => rfl); (case hg => rfl); (case hr => first | (go_simp; done) | (go_simp; rfl)); intro gb121 hg w3 hbox hb; have n0_ := Aside0.mk (below_step (by repeat (first | (with_reducible first | exact HB.out | apply below_alloc | apply pw_below_drewN | apply below_drew1) | exact HB.out)) hb); have n1_ := Aside0.mk (hbox); have n2_ := Aside0.mk ((by rw [hg]; exact (below_size (by repeat (first | (with_reducible first | exact HB.out | apply below_alloc | apply pw_below_drewN | apply below_drew1) | exact HB.out))) : w.heap.size ≤ gb121)); have n3_ := Aside0.mk ((by rw [hg]; exact (below_size (by repeat (first | (with_reducible first | exact HB.out | apply below_alloc | apply pw_below_drewN | apply below_drew1) | exact HB.out))) : w.heap.size ≤ gb121)); clear HB; have HB := n0_; have BK121 := n1_; have GW121 := n2_; have GE121 := n3_; clear n0_ n1_ n2_ n3_; clear hb hbox hg))
  repeat (go_quiet (first | ((with_reducible refine gate_dst (N := 1) rfl ?_); (try (refine gate_guard (by rfl) ?_; dsimp only)); refine box_event ?hg (N := 1) ?hd (cs := #[.slice A0_0 l0_0.length c0_0, .int .i64 a0_1]) (t := 36) ?hr ?_; (case hd => rfl); (case hg => rfl); (case hr => first | (go_simp; done) | (go_simp; rfl)); intro gb121 hg w3 hbox hb; have n0_ := Aside0.mk (below_step (by repeat (first | (with_reducible first | exact HB.out | apply below_alloc | apply pw_below_drewN | apply below_drew1) | exact HB.out)) hb); have n1_ := Aside0.mk (hbox); have n2_ := Aside0.mk ((by rw [hg]; exact (below_size (by repeat (first | (with_reducible first | exact HB.out | apply below_alloc | apply pw_below_drewN | apply below_drew1) | exact HB.out))) : w.heap.size ≤ gb121)); have n3_ := Aside0.mk ((by rw [hg]; exact (below_size (by repeat (first | (with_reducible first | exact HB.out | apply below_alloc | apply pw_below_drewN | apply below_drew1) | exact HB.out))) : w.heap.size ≤ gb121)); clear HB; have HB := n0_; have BK121 := n1_; have GW121 := n2_; have GE121 := n3_; clear n0_ n1_ n2_ n3_; clear hb hbox hg)); go_upto_region 1 with (first | ((with_reducible refine gate_dst (N := 1) rfl ?_); (try (refine gate_guard (by rfl) ?_; dsimp only)); refine box_event ?hg (N := 1) ?hd (cs := #[.slice A0_0 l0_0.length c0_0, .int .i64 a0_1]) (t := 36) ?hr ?_; (case hd => rfl); (case hg => rfl); (case hr => first | (go_simp; done) | (go_simp; rfl)); intro gb121 hg w3 hbox hb; have n0_ := Aside0.mk (below_step (by repeat (first | (with_reducible first | exact HB.out | apply below_alloc | apply pw_below_drewN | apply below_drew1) | exact HB.out)) hb); have n1_ := Aside0.mk (hbox); have n2_ := Aside0.mk ((by rw [hg]; exact (below_size (by repeat (first | (with_reducible first | exact HB.out | apply below_alloc | apply pw_below_drewN | apply below_drew1) | exact HB.out))) : w.heap.size ≤ gb121)); have n3_ := Aside0.mk ((by rw [hg]; exact (below_size (by repeat (first | (with_reducible first | exact HB.out | apply below_alloc | apply pw_below_drewN | apply below_drew1) | exact HB.out))) : w.heap.size ≤ gb121)); clear HB; have HB := n0_; have BK121 := n1_; have GW121 := n2_; have GE121 := n3_; clear n0_ n1_ n2_ n3_; clear hb hbox hg)))
  (try simp only [Act.put, List.setIfInBounds_toArray, List.set_cons_zero, List.set_cons_succ])
  go_cut [20] (fun v20 wc => ∃ (kq : Nat) (x20_1 : Bool), v20 = .bool x20_1 ∧ Aside0 (bits_Check.j0 kq x20_1 l0_0 a0_1 = some r) ∧ Aside0 (kq ≤ k) ∧ Aside0 (wc.heap[gb121]? = some (.cells #[(.slice A0_0 l0_0.length c0_0), .int .i64 a0_1] 36 (0, 0))) ∧ Aside0 (Below w.heap.size w wc))
  case first =>
    have H := HC2.out
    clear HC2
    by_cases c4 : a0_1 < 0
    · rw [if_pos c4] at H
      have c4b0 : decide (a0_1 < 0) = true := decide_eq_true c4
      clear c4
      (first | rw [c4b0] | (simp only [i64_w, i32_w, u8_w]; rw [c4b0]) | skip)
      have H' := Aside0.mk H
      clear H
      have hcz5_0 : w3.cell? ⟨gb121, 0, none⟩ = some (.slice A0_0 l0_0.length c0_0) := (blk_cell BK121.out 0).trans rfl
      have hcz5_1 : w3.cell? ⟨gb121, 1, none⟩ = some (.int .i64 a0_1) := (blk_cell BK121.out 1).trans rfl
      have hfz5_0 := blk_frozen BK121.out 0
      have hfz5_1 := blk_frozen BK121.out 1
      go_wp2
      repeat (go_quiet (fail); try go_wp2)
      go_meet
      case rel => exact ⟨_, (true), (by first | rfl | (simp; done) | (simp [*]; done)), H', ⟨by first | omega | exact Nat.le_refl _⟩, ⟨by (with_reducible repeat (first | refine blk_drewN ?_ _ | refine blk_drew ?_ | refine blk_alloc ?_ _)); exact BK121.out⟩, ⟨by repeat (first | (with_reducible first | exact HB.out | apply below_alloc | apply pw_below_drewN | apply below_drew1 | refine below_set ?_ GE121.out) | exact HB.out)⟩⟩
    · rw [if_neg c4] at H
      have c4b0 : decide (a0_1 < 0) = false := decide_eq_false c4
      clear c4
      (first | rw [c4b0] | (simp only [i64_w, i32_w, u8_w]; rw [c4b0]) | skip)
      have H' := Aside0.mk H
      clear H
      have hcz6_0 : w3.cell? ⟨gb121, 0, none⟩ = some (.slice A0_0 l0_0.length c0_0) := (blk_cell BK121.out 0).trans rfl
      have hcz6_1 : w3.cell? ⟨gb121, 1, none⟩ = some (.int .i64 a0_1) := (blk_cell BK121.out 1).trans rfl
      have hfz6_0 := blk_frozen BK121.out 0
      have hfz6_1 := blk_frozen BK121.out 1
      go_wp2
      repeat (go_quiet (fail); try go_wp2)
      go_meet
      case rel => exact ⟨_, (((l0_0.length : Int) != (wrap64 ((a0_1 / 8) + ((wrap64 ((Go.bits .and .i64 a0_1 7) + 7)) / 8))))), (by first | rfl | (simp; done) | (simp [*]; done)), H', ⟨by first | omega | exact Nat.le_refl _⟩, ⟨by (with_reducible repeat (first | refine blk_drewN ?_ _ | refine blk_drew ?_ | refine blk_alloc ?_ _)); exact BK121.out⟩, ⟨by repeat (first | (with_reducible first | exact HB.out | apply below_alloc | apply pw_below_drewN | apply below_drew1 | refine below_set ?_ GE121.out) | exact HB.out)⟩⟩
  case rest =>
    clear HC2
    try clear p2
    try clear c3
    try clear c4
    try clear c4b0
    try clear p6
    try clear hcz5_0
    try clear hcz5_1
    try clear hcz6_0
    try clear hcz6_1
    try clear hfz5_0
    try clear hfz5_1
    try clear hfz6_0
    try clear hfz6_1
    obtain ⟨kq, x20_1, rfl, HA, HJ1, BK121, HB⟩ := hcut
    cases kq with
    | zero => exact absurd HA.out (by simp [bits_Check.j0])
    | succ kj1 =>
      have H := HA.out
      clear HA
      simp only [bits_Check.j0] at H
      by_cases c7 : x20_1 = true
      · subst c7
        have H1 : (some 2) = some r := by rw [if_pos rfl] at H; exact H
        clear H
        have H := H1
        clear H1
        obtain rfl := Option.some.inj H
        go_wp2
        repeat (go_quiet (fail); try go_wp2)
        go_ret
        exact ⟨by first | rfl | (simp [errW_none, errW_some] <;> rfl) | (simp [*, errW_none, errW_some] <;> rfl), by repeat (first | (with_reducible first | exact HB.out | apply below_alloc | apply pw_below_drewN | apply below_drew1 | refine below_set ?_ GE121.out) | exact HB.out)⟩
      · replace c7 := Bool.eq_false_iff.mpr c7
        subst c7
        have H1 : (if (Go.bits .and .i64 a0_1 7) = 0 then (some 0) else (if 0 ≤ (wrap64 ((l0_0.length : Int) - 1)) then (if (wrap64 ((l0_0.length : Int) - 1)) < (l0_0.length : Int) then (if 0 ≤ (Go.bits .and .i64 a0_1 7) then (if (shr .u8 (rd l0_0 (wrap64 ((l0_0.length : Int) - 1))) (Go.bits .and .i64 a0_1 7)) = 0 then (some 0) else (some 2)) else (none)) else (none)) else (none))) = some r := by rw [if_neg (show ¬ (false = true) by decide)] at H; exact H
        clear H
        have H := H1
        clear H1
        by_cases c8 : (Go.bits .and .i64 a0_1 7) = 0
        · rw [if_pos c8] at H
          have c8b0 : ((Go.bits .and .i64 a0_1 7) == 0) = true := beq_iff_eq.mpr c8
          have c8b1 : ((Go.bits .and .i64 a0_1 7) != 0) = false := bne_eq_false_iff_eq.mpr c8
          clear c8
          obtain rfl := Option.some.inj H
          have hcz9_0 : wc.cell? ⟨gb121, 0, none⟩ = some (.slice A0_0 l0_0.length c0_0) := (blk_cell BK121.out 0).trans rfl
          have hcz9_1 : wc.cell? ⟨gb121, 1, none⟩ = some (.int .i64 a0_1) := (blk_cell BK121.out 1).trans rfl
          have hfz9_0 := blk_frozen BK121.out 0
          have hfz9_1 := blk_frozen BK121.out 1
          go_wp2
          repeat (go_quiet (fail); try go_wp2)
          go_ret
          exact ⟨by first | rfl | (simp [errW_none, errW_some] <;> rfl) | (simp [*, errW_none, errW_some] <;> rfl), by repeat (first | (with_reducible first | exact HB.out | apply below_alloc | apply pw_below_drewN | apply below_drew1 | refine below_set ?_ GE121.out) | exact HB.out)⟩
        · rw [if_neg c8] at H
          have c8b0 : ((Go.bits .and .i64 a0_1 7) == 0) = false := beq_eq_false_iff_ne.mpr c8
          have c8b1 : ((Go.bits .and .i64 a0_1 7) != 0) = true := bne_iff_ne.mpr c8
          obtain ⟨ji10, hji10⟩ : ∃ j_ : Int, (wrap64 ((l0_0.length : Int) - 1)) = j_ := ⟨_, rfl⟩
          replace H : (if 0 ≤ (ji10) then (if (ji10) < (l0_0.length : Int) then (if 0 ≤ (Go.bits .and .i64 a0_1 7) then (if (shr .u8 (rd l0_0 (ji10)) (Go.bits .and .i64 a0_1 7)) = 0 then (some 0) else (some 2)) else (none)) else (none)) else (none)) = some r := by first | (rw [hji10] at H; exact H) | (simp only [hji10] at H ⊢; exact H)
          have hji10w : (IntKind.i64.wrap ((l0_0.length : Int) - 1)) = ji10 := (i64_w _).trans hji10
          by_cases c11 : 0 ≤ (ji10)
          · rw [if_pos c11] at H
            have c11b0 : decide (0 ≤ (ji10)) = true := decide_eq_true c11
            clear c11
            by_cases c12 : (ji10) < (l0_0.length : Int)
            · rw [if_pos c12] at H
              have c12b0 : decide ((ji10) < (l0_0.length : Int)) = true := decide_eq_true c12
              clear c12
              by_cases c13 : 0 ≤ (Go.bits .and .i64 a0_1 7)
              · rw [if_pos c13] at H
                have c13b0 := eq_true c13
                have c13b1 : decide (0 ≤ (Go.bits .and .i64 a0_1 7)) = true := decide_eq_true c13
                clear c13
                obtain ⟨ji14, hji14⟩ : ∃ j_ : Int, (shr .u8 (rd l0_0 (ji10)) (Go.bits .and .i64 a0_1 7)) = j_ := ⟨_, rfl⟩
                replace H : (if (ji14) = 0 then (some 0) else (some 2)) = some r := by first | (rw [hji14] at H; exact H) | (simp only [hji14] at H ⊢; exact H)
                have hji14_ : ((rd l0_0 (ji10)) / 2 ^ min (Go.bits .and .i64 a0_1 7).toNat 8) = ji14 := hji14
                have hji14z : (Go.bits .and .i64 a0_1 7) ≤ 8 → ((rd l0_0 (ji10)) / 2 ^ (Go.bits .and .i64 a0_1 7).toNat) = ji14 := shr_small hji14
                by_cases c15 : (ji14) = 0
                · rw [if_pos c15] at H
                  have c15b0 : ((ji14) == 0) = true := beq_iff_eq.mpr c15
                  have c15b1 : ((ji14) != 0) = false := bne_eq_false_iff_eq.mpr c15
                  clear c15
                  obtain rfl := Option.some.inj H
                  have hcz16_0 : wc.cell? ⟨gb121, 0, none⟩ = some (.slice A0_0 l0_0.length c0_0) := (blk_cell BK121.out 0).trans rfl
                  have hcz16_1 : wc.cell? ⟨gb121, 1, none⟩ = some (.int .i64 a0_1) := (blk_cell BK121.out 1).trans rfl
                  have hfz16_0 := blk_frozen BK121.out 0
                  have hfz16_1 := blk_frozen BK121.out 1
                  have p122 : 0 ≤ ((ji10) : Int) := of_decide_eq_true (by first | (with_reducible assumption) | assumption)
                  have q122 : (ji10) < (l0_0.length : Int) := of_decide_eq_true (by first | (with_reducible assumption) | assumption)
                  obtain ⟨ad122, e122, hx122_0⟩ := Kd.at_int HR0_0.out (ji10) p122 q122
                  cases e122
                  replace hx122_0 := (HB.out.cell (World.block_lt_of_cell? w _ hx122_0)).trans hx122_0
                  replace p122 := eq_true p122
                  replace q122 := eq_true q122
                  go_wp2
                  repeat (go_quiet (fail); try go_wp2)
                  go_ret
                  exact ⟨by first | rfl | (simp [errW_none, errW_some] <;> rfl) | (simp only [← hji10, ← hji14]; first | rfl | (simp [errW_none, errW_some] <;> rfl)) | (simp [*, errW_none, errW_some] <;> rfl), by repeat (first | (with_reducible first | exact HB.out | apply below_alloc | apply pw_below_drewN | apply below_drew1 | refine below_set ?_ GE121.out) | exact HB.out)⟩
                · rw [if_neg c15] at H
                  have c15b0 : ((ji14) == 0) = false := beq_eq_false_iff_ne.mpr c15
                  have c15b1 : ((ji14) != 0) = true := bne_iff_ne.mpr c15
                  obtain rfl := Option.some.inj H
                  have hcz17_0 : wc.cell? ⟨gb121, 0, none⟩ = some (.slice A0_0 l0_0.length c0_0) := (blk_cell BK121.out 0).trans rfl
                  have hcz17_1 : wc.cell? ⟨gb121, 1, none⟩ = some (.int .i64 a0_1) := (blk_cell BK121.out 1).trans rfl
                  have hfz17_0 := blk_frozen BK121.out 0
                  have hfz17_1 := blk_frozen BK121.out 1
                  have p122 : 0 ≤ ((ji10) : Int) := of_decide_eq_true (by first | (with_reducible assumption) | assumption)
                  have q122 : (ji10) < (l0_0.length : Int) := of_decide_eq_true (by first | (with_reducible assumption) | assumption)
                  obtain ⟨ad122, e122, hx122_0⟩ := Kd.at_int HR0_0.out (ji10) p122 q122
                  cases e122
                  replace hx122_0 := (HB.out.cell (World.block_lt_of_cell? w _ hx122_0)).trans hx122_0
                  replace p122 := eq_true p122
                  replace q122 := eq_true q122
                  go_wp2
                  repeat (go_quiet (fail); try go_wp2)
                  go_ret
                  exact ⟨by first | rfl | (simp [errW_none, errW_some] <;> rfl) | (simp only [← hji10, ← hji14]; first | rfl | (simp [errW_none, errW_some] <;> rfl)) | (simp [*, errW_none, errW_some] <;> rfl), by repeat (first | (with_reducible first | exact HB.out | apply below_alloc | apply pw_below_drewN | apply below_drew1 | refine below_set ?_ GE121.out) | exact HB.out)⟩
              · rw [if_neg c13] at H
                exact absurd H (by simp)
            · rw [if_neg c12] at H
              exact absurd H (by simp)
          · rw [if_neg c11] at H
            exact absurd H (by simp)

end Go.Proofs.Ythcndpdfcippiaa.Pr

-- YthcndpdfcippiaaPr8
namespace Go.Proofs.Ythcndpdfcippiaa.Pr
open Go.RowKit Go.Proofs.YthcndpdfcippiaaW.PrintWords Go.Proofs.YthcndpdfcippiaaW.PrintLast Go.Proofs.YthcndpdfcippiaaW.PrintMore
attribute [local go_sem] max2_int min2_int max_two min_two max_three min_three max_four min_four   -- for this text's walks alone
set_option linter.unusedVariables false
set_option linter.unusedSimpArgs false

/-! ### bits_fits: function 42 -/
def bits_fits.f (a0 : Int) (a1 : Int) (a2 : Int) : Option (Bool) := if a1 ≥ 0 then (if a1 ≤ a2 then (if a0 ≥ 0 then (if 0 ≤ a1 then (some ((shr .i64 a0 a1) == 0)) else (none)) else (some false)) else (some false)) else (some false)
set_option maxHeartbeats 8000000 in
set_option maxRecDepth 100000 in
theorem bits_fits.calls (a0 : Int) (a1 : Int) (a2 : Int) (r : Bool) (w : World) (h : bits_fits.f a0 a1 a2 = some r) :
    Calls Try.prog 42 #[.int .i64 a0, .int .i64 a1, .int .i64 a2] w fun e w' => e = .returned (.bool r) ∧ Drawn0 w w' := by
  have H : (if a1 ≥ 0 then (if a1 ≤ a2 then (if a0 ≥ 0 then (if 0 ≤ a1 then (some ((shr .i64 a0 a1) == 0)) else (none)) else (some false)) else (some false)) else (some false)) = some r := h
  clear h
  by_cases c4 : a1 ≥ 0
  · rw [if_pos c4] at H
    have c4b0 : decide (0 ≤ a1) = true := decide_eq_true c4
    clear c4
    by_cases c5 : a1 ≤ a2
    · rw [if_pos c5] at H
      have c5b0 : decide (a1 ≤ a2) = true := decide_eq_true c5
      clear c5
      by_cases c6 : a0 ≥ 0
      · rw [if_pos c6] at H
        have c6b0 : decide (0 ≤ a0) = true := decide_eq_true c6
        clear c6
        by_cases c7 : 0 ≤ a1
        · rw [if_pos c7] at H
          have c7b0 := eq_true c7
          have c7b1 : decide (0 ≤ a1) = true := decide_eq_true c7
          clear c7
          obtain ⟨ji8, hji8⟩ : ∃ j_ : Int, (shr .i64 a0 a1) = j_ := ⟨_, rfl⟩
          replace H : (some ((ji8) == 0)) = some r := by first | (rw [hji8] at H; exact H) | (simp only [hji8] at H ⊢; exact H)
          have hji8_ : (a0 / 2 ^ min a1.toNat 64) = ji8 := hji8
          have hji8z : a1 ≤ 64 → (a0 / 2 ^ a1.toNat) = ji8 := shr_small hji8
          obtain rfl := Option.some.inj H
          go_enter Try.func42, Try.ntmps42
          go_wp2
          go_ret
          exact ⟨by first | rfl | (simp; done) | (simp only [← hji8] <;> (first | rfl | simp)) | (simp [*]; done), by repeat (first | exact Drawn0.refl _ | apply Drawn0.step)⟩
        · rw [if_neg c7] at H
          exact absurd H (by simp)
      · rw [if_neg c6] at H
        have c6b0 : decide (0 ≤ a0) = false := decide_eq_false c6
        clear c6
        obtain rfl := Option.some.inj H
        go_enter Try.func42, Try.ntmps42
        go_wp2
        go_ret
        exact ⟨by first | rfl | (simp; done) | (simp [*]; done), by repeat (first | exact Drawn0.refl _ | apply Drawn0.step)⟩
    · rw [if_neg c5] at H
      have c5b0 : decide (a1 ≤ a2) = false := decide_eq_false c5
      clear c5
      obtain rfl := Option.some.inj H
      go_enter Try.func42, Try.ntmps42
      go_wp2
      go_ret
      exact ⟨by first | rfl | (simp; done) | (simp [*]; done), by repeat (first | exact Drawn0.refl _ | apply Drawn0.step)⟩
  · rw [if_neg c4] at H
    have c4b0 : decide (0 ≤ a1) = false := decide_eq_false c4
    clear c4
    obtain rfl := Option.some.inj H
    go_enter Try.func42, Try.ntmps42
    go_wp2
    go_ret
    exact ⟨by first | rfl | (simp; done) | (simp [*]; done), by repeat (first | exact Drawn0.refl _ | apply Drawn0.step)⟩

/-! ### bits_Turn: function 31 -/
def bits_Turn.l0 : Nat → Int → Int → Int → Int → Option (Int × Int)
  | 0, _, _, _, _ => none
  | k + 1, x0, x6, x11, x12 => if x12 < x11 then (bits_Turn.l0 k (x0 / 2) (Go.bits .or .i64 (wrap64 (x6 * 2)) (Go.bits .and .i64 x0 1)) x11 (wrap64 (x12 + 1))) else (some (x6, 0))
def bits_Turn.f (k : Nat) (a0 : Int) (a1 : Int) : Option (Int × Int) := (bits_fits.f a0 a1 16).bind fun t123 => (if t123 = true then (bits_Turn.l0 k a0 0 a1 0) else (some (0, 2)))
theorem bits_Turn.mono_l : ∀ k, (∀ y0 y1 y2 y3, LeO (bits_Turn.l0 k y0 y1 y2 y3) (bits_Turn.l0 (k + 1) y0 y1 y2 y3))
  | 0 => fun _ _ _ _ r h => by simp [bits_Turn.l0] at h
  | k + 1 => by
    have ih0 := bits_Turn.mono_l k
    · intro y0 y1 y2 y3
      unfold bits_Turn.l0
      repeat' first
      | (with_reducible exact ih0 _ _ _ _)
      | (with_reducible exact LeO.refl _)
      | (with_reducible exact LeO.none _)
      | (with_reducible refine LeO.ite ?_ ?_)
      | (with_reducible refine LeO.bind ?_ (fun _ => ?_))
      | exact ih0 _ _ _ _
      | exact LeO.none _
      | refine LeO.ite ?_ ?_
      | refine LeO.bind ?_ (fun _ => ?_)
theorem bits_Turn.mono : ∀ a0 a1 k, LeO (bits_Turn.f k a0 a1) (bits_Turn.f (k + 1) a0 a1) := by
  intro a0 a1 k
  have ih0 := bits_Turn.mono_l k
  unfold bits_Turn.f
  repeat' first
      | (with_reducible exact ih0 _ _ _ _)
      | (with_reducible exact LeO.refl _)
      | (with_reducible exact LeO.none _)
      | (with_reducible refine LeO.ite ?_ ?_)
      | (with_reducible refine LeO.bind ?_ (fun _ => ?_))
      | exact ih0 _ _ _ _
      | exact LeO.none _
      | refine LeO.ite ?_ ?_
      | refine LeO.bind ?_ (fun _ => ?_)
set_option maxHeartbeats 8000000 in
set_option maxRecDepth 100000 in
theorem bits_Turn.calls (k : Nat) (a0 : Int) (a1 : Int) (r1 : Int) (r2 : Int) (w : World) (h : bits_Turn.f k a0 a1 = some (r1, r2)) :
    Calls Try.prog 31 #[.int .i64 a0, .int .i64 a1] w fun e w' => e = .returned (.tuple #[.int .i64 r1, .int .i64 r2]) ∧ Drawn0 w w' := by
  have H : ((bits_fits.f a0 a1 16).bind fun t123 => (if t123 = true then (bits_Turn.l0 k a0 0 a1 0) else (some (0, 2)))) = some (r1, r2) := h
  clear h
  replace H := Option.bind_eq_some_iff.mp H
  obtain ⟨t123, A30, H⟩ := H
  replace H : (if t123 = true then (bits_Turn.l0 k a0 0 a1 0) else (some (0, 2))) = some (r1, r2) := H
  have A3 := Aside0.mk A30
  clear A30
  by_cases c4 : t123 = true
  · subst c4
    have H1 : (bits_Turn.l0 k a0 0 a1 0) = some (r1, r2) := by rw [if_pos rfl] at H; exact H
    clear H
    have H := H1
    clear H1
    have H' := Aside0.mk H
    clear H
    go_enter Try.func31, Try.ntmps31
    go_wp2_with (first | ((with_reducible refine gate_callee (f := 42) rfl ?_); refine goesL_ (some 9) rfl rfl Try.func42 (by kernel_rfl) rfl #[.int .i64 a0, .int .i64 a1, .int .i64 16] rfl (by (try simp only [List.map_toArray, List.map_cons, List.map_nil]); first | done | rfl | (simp only [List.length_drop, List.length_take]; rfl)) ?_; (with_reducible refine (bits_fits.calls a0 a1 16 true _ A3.out).mono ?_); rintro e w' ⟨rfl, ⟨nd, rfl⟩⟩; refine ⟨_, rfl, ?_⟩))
    go_loopg [0, 6, 12] k (fun kq v0 v6 v12 w' => ∃ (x0_1 : Int) (x6_1 : Int) (x12_1 : Int), v0 = .int .i64 x0_1 ∧ v6 = .int .i64 x6_1 ∧ v12 = .int .i64 x12_1 ∧ Aside0 (bits_Turn.l0 kq x0_1 x6_1 a1 x12_1 = some (r1, r2)) ∧ Aside0 (kq ≤ k) ∧ Drawn0 w w')
    case atStart => exact ⟨(a0), (0), (0), (by first | rfl | (simp; done) | (simp [*]; done)), (by first | rfl | (simp; done) | (simp [*]; done)), (by first | rfl | (simp; done) | (simp [*]; done)), H', ⟨Nat.le_refl _⟩, by repeat (first | exact Drawn0.refl _ | apply Drawn0.step)⟩
    case round =>
      clear H'
      try clear p2
      try clear c3
      try clear c4
      obtain ⟨x0_1, x6_1, x12_1, rfl, rfl, rfl, HA, HK1, ⟨m1, rfl⟩⟩ := hrel
      cases gk with
      | zero => exact absurd HA.out (by simp [bits_Turn.l0])
      | succ k1 =>
        have H := HA.out
        clear HA
        simp only [bits_Turn.l0] at H
        by_cases c5 : x12_1 < a1
        · rw [if_pos c5] at H
          have c5b0 : decide (x12_1 < a1) = true := decide_eq_true c5
          clear c5
          have H' := Aside0.mk H
          clear H
          go_wp2
          go_roundg k1
          case measure => have := HK1.out; omega
          case rel => exact ⟨(x0_1 / 2), (Go.bits .or .i64 (wrap64 (x6_1 * 2)) (Go.bits .and .i64 x0_1 1)), (wrap64 (x12_1 + 1)), (by first | rfl | (simp; done) | (simp [*]; done)), (by first | rfl | (simp; done) | (simp [*]; done)), (by first | rfl | (simp; done) | (simp [*]; done)), H', ⟨by have := HK1.out; omega⟩, by repeat (first | exact Drawn0.refl _ | apply Drawn0.step)⟩
        · rw [if_neg c5] at H
          have c5b0 : decide (x12_1 < a1) = false := decide_eq_false c5
          clear c5
          simp only [Option.some.injEq, Prod.mk.injEq] at H
          obtain ⟨rfl, rfl⟩ := H
          go_wp2
          go_ret2
          exact ⟨by first | rfl | (simp; done) | (simp [*]; done), by repeat (first | exact Drawn0.refl _ | apply Drawn0.step)⟩
  · replace c4 := Bool.eq_false_iff.mpr c4
    subst c4
    have H1 : (some (0, 2)) = some (r1, r2) := by rw [if_neg (show ¬ (false = true) by decide)] at H; exact H
    clear H
    have H := H1
    clear H1
    simp only [Option.some.injEq, Prod.mk.injEq] at H
    obtain ⟨rfl, rfl⟩ := H
    go_enter Try.func31, Try.ntmps31
    go_wp2_with (first | ((with_reducible refine gate_callee (f := 42) rfl ?_); refine goesL_ (some 9) rfl rfl Try.func42 (by kernel_rfl) rfl #[.int .i64 a0, .int .i64 a1, .int .i64 16] rfl (by (try simp only [List.map_toArray, List.map_cons, List.map_nil]); first | done | rfl | (simp only [List.length_drop, List.length_take]; rfl)) ?_; (with_reducible refine (bits_fits.calls a0 a1 16 false _ A3.out).mono ?_); rintro e w' ⟨rfl, ⟨nd, rfl⟩⟩; refine ⟨_, rfl, ?_⟩))
    go_ret2
    exact ⟨by first | rfl | (simp; done) | (simp [*]; done), by repeat (first | exact Drawn0.refl _ | apply Drawn0.step)⟩

end Go.Proofs.Ythcndpdfcippiaa.Pr

-- YthcndpdfcippiaaPr9
namespace Go.Proofs.Ythcndpdfcippiaa.Pr
open Go.RowKit Go.Proofs.YthcndpdfcippiaaW.PrintWords Go.Proofs.YthcndpdfcippiaaW.PrintLast Go.Proofs.YthcndpdfcippiaaW.PrintMore
attribute [local go_sem] max2_int min2_int max_two min_two max_three min_three max_four min_four   -- for this text's walks alone
set_option linter.unusedVariables false
set_option linter.unusedSimpArgs false

/-! ### slices_Clone_byte_byte: function 47 (by hand) -/
def slices_Clone_byte_byte.f (l0 : List Int) : Option (List Int) := if l0.length < 140737488355328 then some l0 else none
set_option maxHeartbeats 1000000 in
set_option maxRecDepth 100000 in
theorem slices_Clone_byte_byte.calls (A0 : Option Addr) (c0 : Nat) (l0 : List Int) (r : List Int) (w : World) (hr0 : Kd.C (Kd.int .u8) w A0 l0.length l0) (hc0 : l0.length ≤ c0) (h : slices_Clone_byte_byte.f l0 = some r) :
    Calls Try.prog 47 #[.slice A0 l0.length c0] w fun e w' => ∃ v0_ : Value, e = .returned v0_ ∧ Kd.R (Kd.int .u8) 5 w' w.heap.size (fun _ => True) v0_ r ∧ Below w.heap.size w w' := by
  unfold slices_Clone_byte_byte.f at h
  by_cases hl : l0.length < 140737488355328
  · rw [if_pos hl] at h
    injection h with h
    subst h
    have HL := Aside0.mk hl
    clear hl
    cases A0 with
    | none =>
      have h0 : l0 = [] := by
        have h2 := hr0.2.2
        by_cases h3 : 0 < l0.length
        · obtain ⟨ad, he, _⟩ := h2 h3
          cases he
        · exact List.eq_nil_of_length_eq_zero (by omega)
      subst h0
      have heq := fun W => Lib.run_eql_slice_nil (P := Try.prog) W 34 5 none 0 c0 0 0 Try.underlying34
      go_enter Try.func47, Try.ntmps47
      go_wp2
      go_ret
      exact ⟨_, rfl, Kd.R_nil _ _ _ _ _, Below.refl _ _⟩
    | some a =>
      have HR := Aside0.mk hr0
      clear hr0
      have heq := fun W => Lib.run_eql_slice_nil (P := Try.prog) W 34 5 (some a) l0.length c0 0 0 Try.underlying34
      go_enter Try.func47, Try.ntmps47
      have HB := Aside0.mk (Below.refl w.heap.size w)
      go_wp2_with (first
        | ((with_reducible refine gate_dst (N := 5) rfl ?_); refine Kd.R_lit (Kd.int .u8) (w0 := w) w.heap.size 5 ?hg (N := 5) ?hd (xs := ([] : List Int)) (inner := []) (ok := fun _ => True) (okp := fun _ => True) ?hr ?hp (fun _ hk => hk) trivial HB.out (Nat.le_refl _) (by simp) ?_; (case hd => rfl); (case hg => rfl); (case hr => first | (go_simp; done) | (go_simp; rfl)); (case hp => exact (Reps.none _ _)); intro v1 w1 ho hb hg hat; have n0_ := Aside0.mk ho; have n1_ := Aside0.mk hb; have n2_ := Aside0.mk (Kd.C_below HR.out hb); clear HB HR; have HO := n0_; have HB := n1_; have HR := n2_; clear n0_ n1_ n2_ ho hb hg hat)
        | ((with_reducible refine gate_dst (N := 7) rfl ?_); refine Kd.R_append_row (Value.int .u8) (0 : Int) (w0 := w) w.heap.size rfl (.tmp 5) (.tmp 6) 34 5 (.int .u8 0) 1 rfl Try.underlying34 info5 rfl (by decide) v1 [] l0 _ _ _ (fun _ => True) rfl rfl (fun _ _ => trivial) HO.out HR.out HB.out ?hs ?hl ?_; (case hs => exact HB.out.size); (case hl => have := HL.out; simp; omega); intro v2 w2 ho hb hg hat; have n0_ := Aside0.mk ho; have n1_ := Aside0.mk hb; clear HB HO; have HO := n0_; have HB := n1_; clear n0_ n1_ ho hb hg hat))
      go_ret
      exact ⟨_, rfl, HO.out, HB.out⟩
  · rw [if_neg hl] at h
    cases h

end Go.Proofs.Ythcndpdfcippiaa.Pr

-- YthcndpdfcippiaaPr1
namespace Go.Proofs.Ythcndpdfcippiaa.Pr
open Go.RowKit Go.Proofs.YthcndpdfcippiaaW.PrintWords Go.Proofs.YthcndpdfcippiaaW.PrintLast Go.Proofs.YthcndpdfcippiaaW.PrintMore
attribute [local go_sem] max2_int min2_int max_two min_two max_three min_three max_four min_four   -- for this text's walks alone
set_option linter.unusedVariables false
set_option linter.unusedSimpArgs false

/-! ### words by hand -/
/-- A row's block is the one that it was, or a new one. -/
def RowOk (w : World) (r : Option Nat) (v : Value) : Prop := ∀ k, v.ownBlock = some k → r = some k ∨ w.heap.size ≤ k
theorem keep2 {w W w1 : World} {g : Nat} {r : Option Nat} (h : KeepBut w W g r) (hb : Below W.heap.size W w1) : KeepBut w w1 g r :=
  ⟨Nat.le_trans h.1 hb.size, fun i hi h1 h2 => (hb.block i (Nat.lt_of_lt_of_le hi h.1)).trans (h.2 i hi h1 h2)⟩
theorem keep3 {w W w1 : World} {g : Nat} {r : Option Nat} {v : Value} (h : KeepBut w W g r) (hv : RowOk w r v) (hg : W.grownBy w1 v.ownBlock) : KeepBut w w1 g r :=
  ⟨Nat.le_trans h.1 hg.size, fun i hi h1 h2 => (hg.block i (Nat.lt_of_lt_of_le hi h.1) (fun he => by
    rcases hv i he.symm with h3 | h3
    · exact h2 h3.symm
    · omega)).trans (h.2 i hi h1 h2)⟩
theorem keep_drew {w W : World} {g : Nat} {r : Option Nat} (h : KeepBut w W g r) : KeepBut w W.drew g r := h
theorem keep_row {w W : World} {g : Nat} {r : Option Nat} {k o : Nat} (h : KeepBut w W g r) (hv : r = some k ∨ w.heap.size ≤ k) (u : Value) : KeepBut w (W.setCell ⟨k, o, none⟩ u) g r :=
  ⟨by rw [World.size_setCell]; exact h.1, fun i hi h1 h2 => (Below.heap_setCell W ⟨k, o, none⟩ u i (fun he => by
    have he : i = k := he
    rcases hv with h3 | h3
    · exact h2 (by rw [h3, he])
    · omega)).trans (h.2 i hi h1 h2)⟩
theorem row_new {w W : World} {r : Option Nat} {v v1 : Value} (hv : RowOk w r v) (hle : w.heap.size ≤ W.heap.size) (hat : v1.ownBlock = v.ownBlock ∨ ∃ b, v1.ownBlock = some b ∧ W.heap.size ≤ b) : RowOk w r v1 := by
  intro k hk
  rcases hat with h | ⟨b, h, hb⟩
  · exact hv k (h ▸ hk)
  · rw [h] at hk
    injection hk with hk
    exact .inr (by omega)
section
variable {P : Program} {ops : Array Oper} {o : Oper} {a : Act} {Q : Exit → Act → World → Prop} {Kc : Act → World → Prop}
end
/-! ### valiselaw04_own: function 10 -/
def valiselaw04_own.f (l0 : List Int) : Option (List Int) := (some (([] : List Int) : List Int)).bind fun y101 => (if y101.length + l0.length < 17592186044416 then (some (y101 ++ l0)) else (none))
set_option maxHeartbeats 8000000 in
set_option maxRecDepth 100000 in
theorem valiselaw04_own.calls (A0 : Option Addr) (c0 : Nat) (l0 : List Int) (r : List Int) (w : World) (hr0 : Kd.C (Kd.int .i64) w A0 l0.length l0) (hc0 : l0.length ≤ c0) (h : valiselaw04_own.f l0 = some r) :
    Calls Try.prog 10 #[.slice A0 l0.length c0] w fun e w' => ∃ v0_ : Value, e = .returned (v0_) ∧ Kd.R (Kd.int .i64) 3 w' w.heap.size (fun _ => True) v0_ r ∧ Below w.heap.size w w' := by
  have HR0 := Aside0.mk hr0
  have HC0 := Aside0.mk hc0
  clear hr0 hc0
  have HB := Aside0.mk (Below.refl w.heap.size w)
  have H : ((some (([] : List Int) : List Int)).bind fun y101 => (if y101.length + l0.length < 17592186044416 then (some (y101 ++ l0)) else (none))) = some r := h
  clear h
  obtain ⟨y101, hy101⟩ : ∃ y_ : List Int, y_ = (([] : List Int)) := ⟨_, rfl⟩
  replace H : (if y101.length + l0.length < 17592186044416 then (some (y101 ++ l0)) else (none)) = some r := by first | (rw [hy101]; with_reducible exact H) | (have H2_ := (Option.bind_some _ _).symm.trans H; rw [hy101]; with_reducible exact H2_) | (have H2_ := (Option.bind_some _ _).symm.trans H; with_reducible exact H2_) | with_reducible exact H | (rw [hy101]; exact H) | exact H
  have Ny101 := Aside0.mk hy101
  clear hy101
  by_cases c2 : y101.length + l0.length < 17592186044416
  · rw [if_pos c2] at H
    have LMc2 := Aside0.mk c2
    clear c2
    obtain ⟨y104, hy104⟩ : ∃ y_ : List Int, y_ = (y101 ++ l0) := ⟨_, rfl⟩
    replace H : (some y104) = some r := by first | (rw [hy104]; with_reducible exact H) | (have H2_ := (Option.bind_some _ _).symm.trans H; rw [hy104]; with_reducible exact H2_) | (have H2_ := (Option.bind_some _ _).symm.trans H; with_reducible exact H2_) | with_reducible exact H | (rw [hy104]; exact H) | exact H
    have Ny104 := Aside0.mk hy104
    clear hy104
    obtain rfl := Option.some.inj H
    go_enter Try.func10, Try.ntmps10
    go_wp2_with (first | ((with_reducible refine gate_dst (N := 3) rfl ?_); refine Kd.R_lit (Kd.int .i64) _ 3 ?hg (N := 3) ?hd (xs := ([] : List Int)) (inner := []) (ok := fun _ => True) (okp := fun _ => True) ?hr ?hp (fun _ hk => hk) trivial (Below.refl _ _) (Nat.le_refl _) (by simp) ?_; (case hd => rfl); (case hg => rfl); (case hr => first | (go_simp; done) | (go_simp; rfl)); (case hp => exact (Reps.none _ _)); intro v102 w3 ho4 hb hg_ hnew_; clear hg_ hnew_; (first | rw [← Ny101.out] at ho4 | (simp only [Int.reduceToNat] at ho4; rw [← Ny101.out] at ho4)); have n0_ := Aside0.mk (Kd.R_lower ho4 (below_size (by repeat (first | (with_reducible first | exact HB.out | apply below_alloc | apply pw_below_drewN | apply below_drew1) | exact HB.out)))); have n1_ := Aside0.mk (below_step (by repeat (first | (with_reducible first | exact HB.out | apply below_alloc | apply pw_below_drewN | apply below_drew1) | exact HB.out)) hb); clear HB; have HO103 := n0_; have HB := n1_; clear n0_ n1_; clear hb ho4) | ((with_reducible refine gate_builtin (b := .append) (xs := #[.tmp 3, .tmp 4]) rfl ?_); at_builtin; refine Kd.R_append_rows (Kd.int .i64) (w0 := w) w.heap.size rfl (.tmp 3) (.tmp 4) 22 3 (.int .i64 0) 8 rfl Try.underlying22 info3 rfl (by decide) (by omega) v102 y101 l0 _ _ _ (fun _ => True) (fun _ => False) rfl rfl ?aO ?aR (fun _ _ h => h) (fun _ h => h.elim) ?aF ?aB ?aS ?aL ?_; (case aR => repeat (first | exact (Kd.C_below HR0.out HB.out) | (with_reducible refine Kd.C_alloc ?_ _) | (with_reducible refine Kd.C_drewN ?_ _) | (with_reducible refine Kd.C_drew ?_))); (case aB => exact (by repeat (first | (with_reducible first | exact HB.out | apply below_alloc | apply pw_below_drewN | apply below_drew1) | exact HB.out))); (case aF => exact (fun _ _ => trivial)); (case aO => exact (by (with_reducible repeat (first | apply Kd.R_alloc | apply Kd.R_drewN | apply Kd.R_drew)); exact HO103.out)); (case aS => exact (below_size (by repeat (first | (with_reducible first | exact HB.out | apply below_alloc | apply pw_below_drewN | apply below_drew1) | exact HB.out)))); (case aL => have := LMc2.out; omega); intro v105 w5 ho hb hg hat; rw [← Ny104.out] at ho; have n0_ := Aside0.mk (hb); have n1_ := Aside0.mk (ho); clear HB; clear HO103; have HB := n0_; have HO106 := n1_; clear n0_ n1_; clear ho hb hg hat))
    go_ret
    exact ⟨_, by first | rfl | (simp [errW_none, errW_some] <;> rfl) | (simp [*, errW_none, errW_some] <;> rfl), by (with_reducible repeat (first | apply Kd.R_alloc | apply Kd.R_drewN | apply Kd.R_drew)); exact HO106.out, by repeat (first | (with_reducible first | exact HB.out | apply below_alloc | apply pw_below_drewN | apply below_drew1) | exact HB.out)⟩
  · rw [if_neg c2] at H
    exact absurd H (by simp)

-- NOT PRINTED: function 26 (huff_used)

-- NOT PRINTED: function 25 (huff_counted)

-- NOT PRINTED: function 27 (huff_counts_room)

/-! ### huff_Check: function 13 (by hand) -/
def huff_Check.f (l0 : List Int) : Option Int := some (Hu.checkS l0)
theorem huff_Check.calls (A0 : Option Addr) (c0 : Nat) (l0 : List Int) (r : Int) (w : World) (hr0 : Kd.C (Kd.int .i64) w A0 l0.length l0) (hc0 : l0.length ≤ c0) (h : huff_Check.f l0 = some r) :
    Calls Try.prog 13 #[.slice A0 l0.length c0] w fun e w' => e = .returned (.int .i64 r) ∧ Below w.heap.size w w' := by
  injection h with h
  subst h
  exact Hu.huff_Check_in A0 c0 l0 w hr0

/-! ### huff_Codes: function 11 (by hand) -/
def huff_Codes.f (l0 : List Int) : Option (List Int × Int) := some (Hu.codesS l0)
theorem huff_Codes.calls (A0 : Option Addr) (c0 : Nat) (l0 : List Int) (r1 : List Int) (r2 : Int) (w : World) (hr0 : Kd.C (Kd.int .i64) w A0 l0.length l0) (hc0 : l0.length ≤ c0) (h : huff_Codes.f l0 = some (r1, r2)) :
    Calls Try.prog 11 #[.slice A0 l0.length c0] w fun e w' => ∃ v0_ : Value, e = .returned (.tuple #[v0_, .int .i64 r2]) ∧ Kd.R (Kd.int .i64) 3 w' w.heap.size (fun _ => True) v0_ r1 ∧ Below w.heap.size w w' := by
  injection h with h
  have hc := Hu.huff_Codes_in A0 c0 l0 w hr0
  rw [h] at hc
  exact hc

end Go.Proofs.Ythcndpdfcippiaa.Pr

