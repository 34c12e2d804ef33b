-- Texts by hand and by programs of this session, joined (wip/tool/merge.py).
import Derived.RangeFuncNested
import Derived.RangeFuncBound
import Derived.RangeFuncCalls
import Derived.RangeFuncLeaves
import Derived.RangeFuncBox
import Derived.Shelf.Abstract
import Derived.Shelf.RegionOpen
import Derived.OwnWalkIn
import Derived.TacticsInMore
import Derived.LoopNIn
import Derived.LoopIn
import Derived.Test.YtgflkkjhckcipaaGreatDoorMID3
import Derived.Test.YtgflkkjhckcipaaGreatDoorMID5
-- YtgflkkjhckcipaaGreatDoorHu7
set_option maxHeartbeats 16000000
set_option maxRecDepth 1000000
namespace Go.Proofs.YtgflkkjhckcipaaGreatDoor.Hu
open Go.RowKit Go.Shelf Go.Proofs.YtgflkkjhckcipaaGreatDoorW.PrintWords Go.Proofs.YtgflkkjhckcipaaGreatDoorW.PrintLast Go.Proofs.YtgflkkjhckcipaaGreatDoorW.PrintMore
set_option linter.unusedVariables false
set_option linter.unusedSimpArgs false
theorem uponIn_of_upon {l n : Nat} {P : Program} {o : Oper} {a : Act} {K : Act → World → Prop} {Q : Exit → Act → World → Prop} {r : Result Next} (h : o.upon P a K Q r) : o.uponIn (Fence.wide.inRound l) n P a K Q r := by
  cases r with
  | ok x w' =>
    cases x with
    | enter f args => exact ⟨fun h => (by cases h), CallsIn.inRound l (callsIn_wide.2 h)⟩
    | row row args => exact ⟨fun h => (by cases h), fun c cs _ => let ⟨v, w2, r, s⟩ := h c cs; ⟨v, w2, r, stepsIn_wide.2 s⟩⟩
    | round l2 f tmps assign body => exact False.elim h
    | _ => exact h
  | halt x w' => cases x <;> exact h
theorem wpOpIn_of_wpOp {l n : Nat} {P : Program} {ops : Array Oper} {Q : Exit → Act → World → Prop} {i : Nat} {K K' : Act → World → Prop} {a : Act} {w : World} (hnd : ∀ o ∈ ops, ∀ c, o.op ≠ .defer c) (hno : ¬ LetsOut Q) (hK : ∀ a w, K a w → K' a w)
    (h : wpOp P ops Q i K a w) : wpOpIn (Fence.wide.inRound l) n P ops Q i K' a w := by
  unfold wpOp at h; unfold wpOpIn
  cases ho : ops[i]? with
  | none => rw [ho] at h; exact hK _ _ h
  | some o => ?_
  rw [ho] at h; dsimp only at h ⊢; have hm : o ∈ ops := Array.mem_of_getElem? ho
  by_cases hw : Region.wanted o (yielded ops a.tmps) = true
  · rw [if_pos hw] at h ⊢; refine Oper.wpIn_mono hK ?_; refine ⟨fun f _ => trivial, ?_⟩; rw [Oper.semAt_plain (Fence.wide.inRound l) _ _ (hnd o hm)]; exact uponIn_of_upon (h.resolve_right (fun h => hno h.2))
  rw [if_neg hw] at h ⊢; exact ⟨fun f _ => trivial, hK _ _ h⟩
theorem wpAnyIn_of_wpAny {l n : Nat} {P : Program} {md : Region.Mode} {ops : Array Oper} {Q : Exit → Act → World → Prop} (hnd : ∀ o ∈ ops, ∀ c, o.op ≠ .defer c) (hno : ¬ LetsOut Q) : ∀ (fuel : Nat) (listed : Array Bool) (a : Act) (w : World), wpAny P md ops Q fuel listed a w → wpAnyIn (Fence.wide.inRound l) n P md ops Q fuel listed a w
  | 0, _, _, _, h => h
  | fuel + 1, listed, a, w, h => ⟨h.1, fun i hi => wpOpIn_of_wpOp hnd hno (fun a w h => wpAnyIn_of_wpAny hnd hno fuel _ a w h) (h.2 i hi)⟩
def noDefer (ops : Array Oper) : Bool := ops.all fun o => match o.op with | .defer _ => false | _ => true
theorem noDefer_spec {ops : Array Oper} (h : noDefer ops = true) : ∀ o ∈ ops, ∀ c, o.op ≠ .defer c := by
  intro o ho c e; unfold noDefer at h; rw [Array.all_eq_true'] at h; have := h o ho; rw [e] at this; cases this
theorem start_in {lp k : Nat} {P : Program} {ops : Array Oper} {Q : Exit → Act → World → Prop} {S : World → Prop} {ds : List Nat} {id n : Nat} {a : Act} {w : World} (l : Array Bool) (hno : ¬ LetsOut Q) (hd : noDefer ops = true) (hm : P.follows .mixedOrders = true) (hn : ops.size = n) (hl : Array.replicate n false = l) (hS : S w.drew)
    (h : S w.drew → wpAnyLast P .any ops Q S ds n l a w.drew) : (Code.region id ops true).wpIn (Fence.wide.inRound lp) k P Q a w := by
  subst hn; subst hl; exact wpIn_region_any hm (wpAnyIn_of_wpAny (noDefer_spec hd) hno _ _ _ _ (wpAny_of_last _ _ _ _ (h hS)))
def noPanic (Q : Exit → Act → World → Prop) : Exit → Act → World → Prop
  | .panic _, _, _ => False
  | e, a, w => Q e a w
theorem region_wide {n : Nat} {P : Program} {c : Code} {Q : Exit → Act → World → Prop} {a : Act} {w : World} (h : c.wp P (noPanic Q) a w) : c.wpIn Fence.wide n P Q a w :=
  wpIn_mono (wpIn_wide.2 h) (fun e a w h => by cases e <;> first | exact h | exact h.elim)
theorem noPanic_normal {Q : Exit → Act → World → Prop} {a : Act} {w : World} (h : Q .normal a w) : noPanic Q .normal a w := h
theorem set17 {W : World} {g t : Nat} {c0 c1 c2 c3 c4 c5 c6 c7 c8 c9 c10 c11 c12 c13 c14 c15 c16 : Value} (h : W.heap[g]? = some (.cells #[c0, c1, c2, c3, c4, c5, c6, c7, c8, c9, c10, c11, c12, c13, c14, c15, c16] t (0, 0))) (v0 v1 v2 v3 v4 v5 v6 v7 v8 v9 v10 v11 v12 v13 v14 v15 : Value) :
    ((((((((((((((((W.setCell ⟨g, 0, none⟩ v0).setCell ⟨g, 1, none⟩ v1).setCell ⟨g, 2, none⟩ v2).setCell ⟨g, 3, none⟩ v3).setCell ⟨g, 4, none⟩ v4).setCell ⟨g, 5, none⟩ v5).setCell ⟨g, 6, none⟩ v6).setCell ⟨g, 7, none⟩ v7).setCell ⟨g, 8, none⟩ v8).setCell ⟨g, 9, none⟩ v9).setCell ⟨g, 10, none⟩ v10).setCell ⟨g, 11, none⟩ v11).setCell ⟨g, 12, none⟩ v12).setCell ⟨g, 13, none⟩ v13).setCell ⟨g, 14, none⟩ v14).setCell ⟨g, 15, none⟩ v15).heap[g]? = some (.cells #[v0, v1, v2, v3, v4, v5, v6, v7, v8, v9, v10, v11, v12, v13, v14, v15, c16] t (0, 0)) := by
  have h := blk_put h 0 v0 (cs' := #[v0, c1, c2, c3, c4, c5, c6, c7, c8, c9, c10, c11, c12, c13, c14, c15, c16]) rfl; have h := blk_put h 1 v1 (cs' := #[v0, v1, c2, c3, c4, c5, c6, c7, c8, c9, c10, c11, c12, c13, c14, c15, c16]) rfl; have h := blk_put h 2 v2 (cs' := #[v0, v1, v2, c3, c4, c5, c6, c7, c8, c9, c10, c11, c12, c13, c14, c15, c16]) rfl; have h := blk_put h 3 v3 (cs' := #[v0, v1, v2, v3, c4, c5, c6, c7, c8, c9, c10, c11, c12, c13, c14, c15, c16]) rfl; have h := blk_put h 4 v4 (cs' := #[v0, v1, v2, v3, v4, c5, c6, c7, c8, c9, c10, c11, c12, c13, c14, c15, c16]) rfl; have h := blk_put h 5 v5 (cs' := #[v0, v1, v2, v3, v4, v5, c6, c7, c8, c9, c10, c11, c12, c13, c14, c15, c16]) rfl; have h := blk_put h 6 v6 (cs' := #[v0, v1, v2, v3, v4, v5, v6, c7, c8, c9, c10, c11, c12, c13, c14, c15, c16]) rfl; have h := blk_put h 7 v7 (cs' := #[v0, v1, v2, v3, v4, v5, v6, v7, c8, c9, c10, c11, c12, c13, c14, c15, c16]) rfl; have h := blk_put h 8 v8 (cs' := #[v0, v1, v2, v3, v4, v5, v6, v7, v8, c9, c10, c11, c12, c13, c14, c15, c16]) rfl; have h := blk_put h 9 v9 (cs' := #[v0, v1, v2, v3, v4, v5, v6, v7, v8, v9, c10, c11, c12, c13, c14, c15, c16]) rfl; have h := blk_put h 10 v10 (cs' := #[v0, v1, v2, v3, v4, v5, v6, v7, v8, v9, v10, c11, c12, c13, c14, c15, c16]) rfl; have h := blk_put h 11 v11 (cs' := #[v0, v1, v2, v3, v4, v5, v6, v7, v8, v9, v10, v11, c12, c13, c14, c15, c16]) rfl; have h := blk_put h 12 v12 (cs' := #[v0, v1, v2, v3, v4, v5, v6, v7, v8, v9, v10, v11, v12, c13, c14, c15, c16]) rfl; have h := blk_put h 13 v13 (cs' := #[v0, v1, v2, v3, v4, v5, v6, v7, v8, v9, v10, v11, v12, v13, c14, c15, c16]) rfl; have h := blk_put h 14 v14 (cs' := #[v0, v1, v2, v3, v4, v5, v6, v7, v8, v9, v10, v11, v12, v13, v14, c15, c16]) rfl; have h := blk_put h 15 v15 (cs' := #[v0, v1, v2, v3, v4, v5, v6, v7, v8, v9, v10, v11, v12, v13, v14, v15, c16]) rfl; exact h
def tblV (cl : List Int) (v : Value) : Array Value := (cl.map (Value.int .i64) ++ [v]).toArray
def symsL (l : List Int) : List Int := (usedL l l.length).map fun x => (x.1 : Int)
def newS (l : List Int) : Int := if checkS l = 2 then 2 else if checkS l ≠ 0 ∧ (checkS l ≠ 12 ∨ (symsL l).length ≠ 1 ∨ rd (countedS l).1 1 ≠ 1) then checkS l else 0
def TableOwn (w : World) (base g : Nat) (cl ss : List Int) : Prop := cl.length = 16 ∧ base ≤ g ∧ ∃ v, w.heap[g]? = some (.cells (tblV cl v) 136 (0, 0)) ∧ Kd.R (Kd.int .i64) 3 w base (fun _ => True) v ss
def OrderedAt (l ss ss' : List Int) : Prop := ∀ (W : World) (base gb : Nat) (v : Value) (A : Option Addr) (c : Nat), Kd.R (Kd.int .i64) 3 W base (fun _ => True) v ss → W.heap[gb]? = some (.cells #[.slice A l.length c] 68 (0, 0)) → (Kd.int .i64).C W A l.length l → (∀ ad, A = some ad → ad.block < base) →
  Calls Tryz.prog 71 #[v, .func (.func 72) #[] #[.pointer (some ⟨gb, 0, none⟩)]] W fun e W' => e = .returned (.tuple #[]) ∧ Kd.R (Kd.int .i64) 3 W' base (fun _ => True) v ss' ∧ W.grownBy W' v.ownBlock
def NewPost (l ss' : List Int) (w : World) (e : Ending) (w' : World) : Prop :=
  (newS l = 0 → ∃ g, e = .returned (.tuple #[.pointer (some ⟨g, 0, none⟩), .int .i64 0]) ∧ TableOwn w' w.heap.size g (countedS l).1 ss') ∧ (newS l ≠ 0 → e = .returned (.tuple #[.pointer none, .int .i64 (newS l)])) ∧ Below w.heap.size w w'
section
attribute [local go_sem] Oper.semAt_some
theorem new_arg (A : Option Addr) (c : Nat) (l ss' : List Int) (w : World) (hr : (Kd.int .i64).C w A l.length l) (hs : checkS l = 2) : Calls Tryz.prog 46 #[.slice A l.length c] w (NewPost l ss' w) := by
  have h2 : newS l = 2 := by unfold newS; rw [if_pos hs]
  have K := Ak (fun (w' : World) (hb : Below w.heap.size w w') => huff_Check_in A c l w' (Kd.C_below hr hb)); rw [hs] at K; unfold NewPost; rw [h2]; go_enter Tryz.func46, Tryz.ntmps46
  go_wp2_with (go_at_call 68; refine (K.out _ (below_alloc (Below.refl _ _) _)).mono ?_; rintro e_ w3 ⟨rfl, hb⟩; have HB := Ak hb; clear hb)
  go_ret2; refine ⟨fun h => absurd h (by decide), fun _ => rfl, below_then (below_alloc (Below.refl _ _) _) (by rw [World.size_alloc]; omega) HB.out⟩
end
theorem tblV_last {W : World} {g t : Nat} {cl : List Int} {v : Value} (h : W.heap[g]? = some (.cells (tblV cl v) t (0, 0))) (hl : cl.length = 16) : W.cell? ⟨g, 16, none⟩ = some v := by
  rw [blk_cell h]; unfold tblV; rw [List.getElem?_toArray, List.getElem?_append_right (by simp; omega)]
  simp [hl]
theorem tblV_at {W : World} {g t : Nat} {cl : List Int} {v : Value} (h : W.heap[g]? = some (.cells (tblV cl v) t (0, 0))) (hl : cl.length = 16) (i : Nat) (hi : i < 16) : W.cell? ⟨g, i, none⟩ = some (.int .i64 (rd cl (i : Int))) := by
  rw [blk_cell h]; unfold tblV rd; rw [List.getElem?_toArray, List.getElem?_append_left (by simp; omega), List.getElem?_map, List.getD_eq_getElem?_getD, Int.toNat_natCast, List.getElem?_eq_getElem (show i < cl.length by omega)]
  rfl
theorem tblV_set {cl : List Int} (hl : cl.length = 16) (v u : Value) : (tblV cl v).setIfInBounds 16 u = tblV cl u := by
  unfold tblV; rw [List.setIfInBounds_toArray, List.set_append_right _ _ (by simp; omega)]
  simp [hl]
theorem keeps_below {B : Nat} {W W1 W2 : World} (h : KeepsFrom B W W1) (k : Below W1.heap.size W1 W2) : KeepsFrom B W W2 := h.trans ⟨k.size, fun i o _ hi _ => (k.block i (Array.getElem?_eq_some_iff.1 hi).1).trans hi⟩
theorem keeps_grown {B : Nat} {W W1 W2 : World} {row : Option Nat} (h : KeepsFrom B W W1) (hg : W1.grownBy W2 row) (hr : ∀ k, row = some k → ∃ cells, W1.heap[k]? = some (.cells cells 3 (0, 0))) : KeepsFrom B W W2 :=
  h.trans ⟨hg.size, fun i o _ hi ho => (hg.block i (Array.getElem?_eq_some_iff.1 hi).1 (fun e => by
    obtain ⟨cells, hc⟩ := hr i e.symm; rw [hc] at hi
    injection hi with hi
    subst hi
    cases ho)).trans hi⟩
def NewI (w : World) (cs : List Int) (A : Option Addr) (len c gt gb : Nat) (pre : List (Nat × Int)) (W : World) : Prop :=
  ∃ v, Kd.R (Kd.int .i64) 3 W w.heap.size (fun _ => True) v (pre.map fun x => (x.1 : Int)) ∧ W.heap[gt]? = some (.cells (tblV cs v) 136 (0, 0)) ∧ W.heap[gt + 1]? = some (.cells #[Value.pointer (some ⟨gt, 0, none⟩)] 92 (0, 0)) ∧ W.heap[gb]? = some (.cells #[Value.slice A len c] 68 (0, 0)) ∧ Below w.heap.size w W
theorem newI_own (w : World) (cs : List Int) (A : Option Addr) (len c gt gb B : Nat) (hB : w.heap.size ≤ B) : OwnFrom B (NewI w cs A len c gt gb) := by
  rintro pre W W' row ⟨v, h1, h2, h3, h4, h5⟩ hg hr
  have hne : ∀ {g t : Nat} {cells : Array Value}, W.heap[g]? = some (.cells cells t (0, 0)) → some g ≠ row := fun h e => by
    obtain ⟨_, o, ho, hn⟩ := hr _ e.symm; rw [h] at ho
    injection ho with ho
    subst ho; cases hn
  refine ⟨v, Kd.R_grown2 h1 rfl hg (fun k e e2 => ?_), blk_grown h2 hg (hne h2), blk_grown h3 hg (hne h3), blk_grown h4 hg (hne h4), ownFrom_below (β := List (Nat × Int)) (Nat.le_refl _) hB pre W W' row h5 hg hr⟩; obtain ⟨cells, hc⟩ := Kd.R_typed h1 k e2.symm; exact hne hc e.symm
section
attribute [local go_sem] Oper.semAt_some
theorem new_ok (A : Option Addr) (c : Nat) (l ss' : List Int) (w : World) (hr : (Kd.int .i64).C w A l.length l) (hs : ¬ checkS l = 2) (HS : OrderedAt l (symsL l) ss') : Calls Tryz.prog 46 #[.slice A l.length c] w (NewPost l ss' w) := by
  refine (callsIn_wide (n := 3)).1 ?_
  have hok : (countedS l).2 = true := by
    cases h : (countedS l).2 with
    | true => rfl
    | false => exact absurd (by unfold checkS; rw [if_pos h]) hs
  have hL : ¬ (l.length < 1 ∨ 288 < l.length) := fun h => by
    have : (countedS l).2 = false := by unfold countedS; rw [if_pos h]
    rw [this] at hok; cases hok
  have hL2 : 1 ≤ l.length ∧ l.length ≤ 288 := by omega
  have HL := Ak hL2; clear hL hL2; have HR := Ak hr; have K := Ak (fun (w' : World) (hb : Below w.heap.size w w') => huff_Check_in A c l w' (Kd.C_below hr hb)); have K4 := Ak (fun (w' : World) (hb : Below w.heap.size w w') => huff_counted.calls A c l w' (Kd.C_below hr hb)); unfold CountedPost at K4; simp only [hok] at K4; have hlen := countedS_len l; have NS := Ak (show newS l = if checkS l ≠ 0 ∧ (checkS l ≠ 12 ∨ (symsL l).length ≠ 1 ∨ rd (countedS l).1 1 ≠ 1) then checkS l else 0 from by unfold newS; rw [if_neg hs]); obtain ⟨ns, hns⟩ : ∃ n, newS l = n := ⟨_, rfl⟩; unfold NewPost; rw [hns] at NS ⊢; clear hns; obtain ⟨y, hy⟩ : ∃ y, checkS l = y := ⟨_, rfl⟩; rw [hy] at NS K hs; clear hy; obtain ⟨cl, hcl⟩ : ∃ cl, (countedS l).1 = cl := ⟨_, rfl⟩; rw [hcl] at hlen NS ⊢; simp only [hcl] at K4; obtain ⟨cs, hcs⟩ : ∃ cs, cl = cs := ⟨_, rfl⟩; rw [hcs] at NS ⊢; have hlen2 := hlen; rw [hcs] at hlen2; have HLEN := Ak hlen2; have HCS := Ak hcs; clear hok hcs hcl hlen2; obtain ⟨x0, cl, rfl⟩ := List.exists_cons_of_length_pos (l := cl) (by omega); obtain ⟨x1, cl, rfl⟩ := List.exists_cons_of_length_pos (l := cl) (by simp only [List.length_cons] at hlen; omega); obtain ⟨x2, cl, rfl⟩ := List.exists_cons_of_length_pos (l := cl) (by simp only [List.length_cons] at hlen; omega); obtain ⟨x3, cl, rfl⟩ := List.exists_cons_of_length_pos (l := cl) (by simp only [List.length_cons] at hlen; omega); obtain ⟨x4, cl, rfl⟩ := List.exists_cons_of_length_pos (l := cl) (by simp only [List.length_cons] at hlen; omega); obtain ⟨x5, cl, rfl⟩ := List.exists_cons_of_length_pos (l := cl) (by simp only [List.length_cons] at hlen; omega); obtain ⟨x6, cl, rfl⟩ := List.exists_cons_of_length_pos (l := cl) (by simp only [List.length_cons] at hlen; omega); obtain ⟨x7, cl, rfl⟩ := List.exists_cons_of_length_pos (l := cl) (by simp only [List.length_cons] at hlen; omega); obtain ⟨x8, cl, rfl⟩ := List.exists_cons_of_length_pos (l := cl) (by simp only [List.length_cons] at hlen; omega); obtain ⟨x9, cl, rfl⟩ := List.exists_cons_of_length_pos (l := cl) (by simp only [List.length_cons] at hlen; omega); obtain ⟨x10, cl, rfl⟩ := List.exists_cons_of_length_pos (l := cl) (by simp only [List.length_cons] at hlen; omega); obtain ⟨x11, cl, rfl⟩ := List.exists_cons_of_length_pos (l := cl) (by simp only [List.length_cons] at hlen; omega); obtain ⟨x12, cl, rfl⟩ := List.exists_cons_of_length_pos (l := cl) (by simp only [List.length_cons] at hlen; omega); obtain ⟨x13, cl, rfl⟩ := List.exists_cons_of_length_pos (l := cl) (by simp only [List.length_cons] at hlen; omega); obtain ⟨x14, cl, rfl⟩ := List.exists_cons_of_length_pos (l := cl) (by simp only [List.length_cons] at hlen; omega); obtain ⟨x15, cl, rfl⟩ := List.exists_cons_of_length_pos (l := cl) (by simp only [List.length_cons] at hlen; omega); obtain rfl : cl = [] := List.eq_nil_of_length_eq_zero (by simp only [List.length_cons] at hlen; omega); clear hlen; simp only [agg16, List.map_cons, List.map_nil] at K4; have q2 : (y == 2) = false := beq_eq_false_iff_ne.mpr hs; refine callsIn_of_wp_marks Tryz.func46 rfl trivial ?_ rfl; simp only [Tryz.ntmps46, List.size_toArray, List.length_cons, List.length_nil, Nat.reduceAdd, Nat.reduceSub, Array.replicate_succ, Array.replicate_zero, List.push_toArray, List.append_toArray, List.nil_append, List.cons_append]
  gi_wp2_with ((refine ⟨trivial, ?_⟩; gi_at_call 68; refine (callsIn_wide.2 (K.out _ (below_alloc (Below.refl _ _) _))).mono ?_; rintro e_ w3 ⟨rfl, hb⟩; have HB := Ak (below_then (below_alloc (Below.refl w.heap.size w) (.cells #[.slice A l.length c] 68 (0, 0))) (by rw [World.size_alloc]; omega) hb); have BB := Ak (blk_below (blk_new w (.cells #[.slice A l.length c] 68 (0, 0))) hb); clear hb; have hcb : w3.cell? ⟨w.heap.size, 0, none⟩ = some (.slice A l.length c) := (blk_cell BB.out 0).trans rfl))
  have hbt := blk_alloc (blk_new w3 (.cells #[.int .i64 0, Value.int IntKind.i64 0, Value.int IntKind.i64 0, Value.int IntKind.i64 0, Value.int IntKind.i64 0, Value.int IntKind.i64 0, Value.int IntKind.i64 0, Value.int IntKind.i64 0, Value.int IntKind.i64 0, Value.int IntKind.i64 0, Value.int IntKind.i64 0, Value.int IntKind.i64 0, Value.int IntKind.i64 0, Value.int IntKind.i64 0, Value.int IntKind.i64 0, Value.int IntKind.i64 0, Value.slice none 0 0] 136 (0, 0))) (.cells #[Value.pointer (some ⟨w3.heap.size, 0, none⟩)] 92 (0, 0)); have hbv := blk_new (w3.alloc (.cells #[.int .i64 0, Value.int IntKind.i64 0, Value.int IntKind.i64 0, Value.int IntKind.i64 0, Value.int IntKind.i64 0, Value.int IntKind.i64 0, Value.int IntKind.i64 0, Value.int IntKind.i64 0, Value.int IntKind.i64 0, Value.int IntKind.i64 0, Value.int IntKind.i64 0, Value.int IntKind.i64 0, Value.int IntKind.i64 0, Value.int IntKind.i64 0, Value.int IntKind.i64 0, Value.int IntKind.i64 0, Value.slice none 0 0] 136 (0, 0))) (.cells #[Value.pointer (some ⟨w3.heap.size, 0, none⟩)] 92 (0, 0)); simp only [World.size_alloc] at hbv; have hbb := blk_alloc (blk_alloc BB.out (.cells #[.int .i64 0, Value.int IntKind.i64 0, Value.int IntKind.i64 0, Value.int IntKind.i64 0, Value.int IntKind.i64 0, Value.int IntKind.i64 0, Value.int IntKind.i64 0, Value.int IntKind.i64 0, Value.int IntKind.i64 0, Value.int IntKind.i64 0, Value.int IntKind.i64 0, Value.int IntKind.i64 0, Value.int IntKind.i64 0, Value.int IntKind.i64 0, Value.int IntKind.i64 0, Value.int IntKind.i64 0, Value.slice none 0 0] 136 (0, 0))) (.cells #[Value.pointer (some ⟨w3.heap.size, 0, none⟩)] 92 (0, 0)); have hB0 := below_alloc (below_alloc HB.out (.cells #[.int .i64 0, Value.int IntKind.i64 0, Value.int IntKind.i64 0, Value.int IntKind.i64 0, Value.int IntKind.i64 0, Value.int IntKind.i64 0, Value.int IntKind.i64 0, Value.int IntKind.i64 0, Value.int IntKind.i64 0, Value.int IntKind.i64 0, Value.int IntKind.i64 0, Value.int IntKind.i64 0, Value.int IntKind.i64 0, Value.int IntKind.i64 0, Value.int IntKind.i64 0, Value.int IntKind.i64 0, Value.slice none 0 0] 136 (0, 0))) (.cells #[Value.pointer (some ⟨w3.heap.size, 0, none⟩)] 92 (0, 0)); have hG := HB.out.size; have hbl := blk_lt BB.out; generalize ((w3.alloc (.cells #[.int .i64 0, Value.int IntKind.i64 0, Value.int IntKind.i64 0, Value.int IntKind.i64 0, Value.int IntKind.i64 0, Value.int IntKind.i64 0, Value.int IntKind.i64 0, Value.int IntKind.i64 0, Value.int IntKind.i64 0, Value.int IntKind.i64 0, Value.int IntKind.i64 0, Value.int IntKind.i64 0, Value.int IntKind.i64 0, Value.int IntKind.i64 0, Value.int IntKind.i64 0, Value.int IntKind.i64 0, Value.slice none 0 0] 136 (0, 0))).alloc (.cells #[Value.pointer (some ⟨w3.heap.size, 0, none⟩)] 92 (0, 0))) = W0 at hbt hbv hbb hB0 ⊢; obtain ⟨gt, hgt⟩ : ∃ gt, w3.heap.size = gt := ⟨_, rfl⟩; rw [hgt] at hbt hbv hG hbl ⊢; obtain ⟨gb, hgb⟩ : ∃ gb, w.heap.size = gb := ⟨_, rfl⟩; have hbb2 := hbb; rw [hgb] at hbb2 hbl; have GT := Ak hG; have NTB := Ak (show gb ≠ gt by omega); have GB := Ak hgb; clear HB BB hcb; have HB := Ak (below_drew1 hB0); have BT := Ak (blk_drew hbt); have BV := Ak (blk_drew hbv); have BB := Ak (blk_drew hbb2); clear hB0 hbt hbv hbb hbb2; rw [hgb]; clear hgb hG hbl hgt; refine region_wide ?_; refine sq 9 (S := fun w' => w'.cell? ⟨gt + 1, 0, none⟩ = some (.pointer (some ⟨gt, 0, none⟩)) ∧ w'.cell? ⟨gb, 0, none⟩ = some (.slice A l.length c)) (ds := [8]) ⟨(blk_cell BV.out 0).trans rfl, (blk_cell BB.out 0).trans rfl⟩ fun hHeld => ?_; generalize W0.drew = wd at HB BT BV BB hHeld ⊢; refine tq 0 15 ?_ hHeld; refine tq 1 16 ?_ hHeld; refine oq 2 17 fun K hK => ?_; refine gq Tryz.func69 #[.slice A l.length c] ?_
  with_reducible refine (K4.out _ HB.out).mono ?_
  rintro e w5 ⟨rfl, hb⟩; refine ⟨_, rfl, ?_⟩; replace HB := Ak (below_then HB.out HB.out.size hb); replace BT := Ak (blk_below BT.out hb); replace BV := Ak (blk_below BV.out hb); replace BB := Ak (blk_below BB.out hb); clear hb; refine hK.out _ _ ⟨(blk_cell BV.out 0).trans rfl, (blk_cell BB.out 0).trans rfl⟩ (fun hHeld => ?_); clear hK K; refine nq 17 ?_; refine pq 3 14 ?_; refine pq 4 18 ?_; refine pq 5 19 ?_; refine pq 6 20 ?_; refine pq 7 21 ?_; refine lq 8 fun K hK => ?_; have hz0 : w5.cell? ⟨gt, 0, none⟩ = some (.int .i64 0) := (blk_cell BT.out 0).trans rfl; have hz1 : w5.cell? ⟨gt, 1, none⟩ = some (.int .i64 0) := (blk_cell BT.out 1).trans rfl; have hz2 : w5.cell? ⟨gt, 2, none⟩ = some (.int .i64 0) := (blk_cell BT.out 2).trans rfl; have hz3 : w5.cell? ⟨gt, 3, none⟩ = some (.int .i64 0) := (blk_cell BT.out 3).trans rfl; have hz4 : w5.cell? ⟨gt, 4, none⟩ = some (.int .i64 0) := (blk_cell BT.out 4).trans rfl; have hz5 : w5.cell? ⟨gt, 5, none⟩ = some (.int .i64 0) := (blk_cell BT.out 5).trans rfl; have hz6 : w5.cell? ⟨gt, 6, none⟩ = some (.int .i64 0) := (blk_cell BT.out 6).trans rfl; have hz7 : w5.cell? ⟨gt, 7, none⟩ = some (.int .i64 0) := (blk_cell BT.out 7).trans rfl; have hz8 : w5.cell? ⟨gt, 8, none⟩ = some (.int .i64 0) := (blk_cell BT.out 8).trans rfl; have hz9 : w5.cell? ⟨gt, 9, none⟩ = some (.int .i64 0) := (blk_cell BT.out 9).trans rfl; have hz10 : w5.cell? ⟨gt, 10, none⟩ = some (.int .i64 0) := (blk_cell BT.out 10).trans rfl; have hz11 : w5.cell? ⟨gt, 11, none⟩ = some (.int .i64 0) := (blk_cell BT.out 11).trans rfl; have hz12 : w5.cell? ⟨gt, 12, none⟩ = some (.int .i64 0) := (blk_cell BT.out 12).trans rfl; have hz13 : w5.cell? ⟨gt, 13, none⟩ = some (.int .i64 0) := (blk_cell BT.out 13).trans rfl; have hz14 : w5.cell? ⟨gt, 14, none⟩ = some (.int .i64 0) := (blk_cell BT.out 14).trans rfl; have hz15 : w5.cell? ⟨gt, 15, none⟩ = some (.int .i64 0) := (blk_cell BT.out 15).trans rfl; have hf0 := blk_frozen BT.out 0; have hf1 := blk_frozen BT.out 1; have hf2 := blk_frozen BT.out 2; have hf3 := blk_frozen BT.out 3; have hf4 := blk_frozen BT.out 4; have hf5 := blk_frozen BT.out 5; have hf6 := blk_frozen BT.out 6; have hf7 := blk_frozen BT.out 7; have hf8 := blk_frozen BT.out 8; have hf9 := blk_frozen BT.out 9; have hf10 := blk_frozen BT.out 10; have hf11 := blk_frozen BT.out 11; have hf12 := blk_frozen BT.out 12; have hf13 := blk_frozen BT.out 13; have hf14 := blk_frozen BT.out 14; have hf15 := blk_frozen BT.out 15; refine skip_ (w1 := ?_) (by rfl) rfl ?_ ?_; rotate_left
  · go_simp
    rfl
  refine hK.out _ _ ?_; clear hK K; refine dq ?_; refine noPanic_normal ?_; have bT := set17 BT.out (Value.int IntKind.i64 x0) (Value.int IntKind.i64 x1) (Value.int IntKind.i64 x2) (Value.int IntKind.i64 x3) (Value.int IntKind.i64 x4) (Value.int IntKind.i64 x5) (Value.int IntKind.i64 x6) (Value.int IntKind.i64 x7) (Value.int IntKind.i64 x8) (Value.int IntKind.i64 x9) (Value.int IntKind.i64 x10) (Value.int IntKind.i64 x11) (Value.int IntKind.i64 x12) (Value.int IntKind.i64 x13) (Value.int IntKind.i64 x14) (Value.int IntKind.i64 x15); have bV := set16_far BV.out (show gt + 1 ≠ gt by omega) (Value.int IntKind.i64 x0) (Value.int IntKind.i64 x1) (Value.int IntKind.i64 x2) (Value.int IntKind.i64 x3) (Value.int IntKind.i64 x4) (Value.int IntKind.i64 x5) (Value.int IntKind.i64 x6) (Value.int IntKind.i64 x7) (Value.int IntKind.i64 x8) (Value.int IntKind.i64 x9) (Value.int IntKind.i64 x10) (Value.int IntKind.i64 x11) (Value.int IntKind.i64 x12) (Value.int IntKind.i64 x13) (Value.int IntKind.i64 x14) (Value.int IntKind.i64 x15); have bB := set16_far BB.out NTB.out (Value.int IntKind.i64 x0) (Value.int IntKind.i64 x1) (Value.int IntKind.i64 x2) (Value.int IntKind.i64 x3) (Value.int IntKind.i64 x4) (Value.int IntKind.i64 x5) (Value.int IntKind.i64 x6) (Value.int IntKind.i64 x7) (Value.int IntKind.i64 x8) (Value.int IntKind.i64 x9) (Value.int IntKind.i64 x10) (Value.int IntKind.i64 x11) (Value.int IntKind.i64 x12) (Value.int IntKind.i64 x13) (Value.int IntKind.i64 x14) (Value.int IntKind.i64 x15); have hB := set16_below HB.out GT.out (Value.int IntKind.i64 x0) (Value.int IntKind.i64 x1) (Value.int IntKind.i64 x2) (Value.int IntKind.i64 x3) (Value.int IntKind.i64 x4) (Value.int IntKind.i64 x5) (Value.int IntKind.i64 x6) (Value.int IntKind.i64 x7) (Value.int IntKind.i64 x8) (Value.int IntKind.i64 x9) (Value.int IntKind.i64 x10) (Value.int IntKind.i64 x11) (Value.int IntKind.i64 x12) (Value.int IntKind.i64 x13) (Value.int IntKind.i64 x14) (Value.int IntKind.i64 x15); clear hz0 hf0 hz1 hf1 hz2 hf2 hz3 hf3 hz4 hf4 hz5 hf5 hz6 hf6 hz7 hf7 hz8 hf8 hz9 hf9 hz10 hf10 hz11 hf11 hz12 hf12 hz13 hf13 hz14 hf14 hz15 hf15 hHeld; generalize ((((((((((((((((w5.setCell ⟨gt, 0, none⟩ (Value.int IntKind.i64 x0)).setCell ⟨gt, 1, none⟩ (Value.int IntKind.i64 x1)).setCell ⟨gt, 2, none⟩ (Value.int IntKind.i64 x2)).setCell ⟨gt, 3, none⟩ (Value.int IntKind.i64 x3)).setCell ⟨gt, 4, none⟩ (Value.int IntKind.i64 x4)).setCell ⟨gt, 5, none⟩ (Value.int IntKind.i64 x5)).setCell ⟨gt, 6, none⟩ (Value.int IntKind.i64 x6)).setCell ⟨gt, 7, none⟩ (Value.int IntKind.i64 x7)).setCell ⟨gt, 8, none⟩ (Value.int IntKind.i64 x8)).setCell ⟨gt, 9, none⟩ (Value.int IntKind.i64 x9)).setCell ⟨gt, 10, none⟩ (Value.int IntKind.i64 x10)).setCell ⟨gt, 11, none⟩ (Value.int IntKind.i64 x11)).setCell ⟨gt, 12, none⟩ (Value.int IntKind.i64 x12)).setCell ⟨gt, 13, none⟩ (Value.int IntKind.i64 x13)).setCell ⟨gt, 14, none⟩ (Value.int IntKind.i64 x14)).setCell ⟨gt, 15, none⟩ (Value.int IntKind.i64 x15)) = W2 at bT bV bB hB ⊢
  have bT := show W2.heap[gt]? = some (.cells (tblV [x0, x1, x2, x3, x4, x5, x6, x7, x8, x9, x10, x11, x12, x13, x14, x15] (Value.slice none 0 0)) 136 (0, 0)) from bT
  rw [HCS.out] at bT; have hcb : W2.cell? ⟨gb, 0, none⟩ = some (.slice A l.length c) := (blk_cell bB 0).trans rfl; generalize (Value.agg #[Value.int IntKind.i64 x0, Value.int IntKind.i64 x1, Value.int IntKind.i64 x2, Value.int IntKind.i64 x3, Value.int IntKind.i64 x4, Value.int IntKind.i64 x5, Value.int IntKind.i64 x6, Value.int IntKind.i64 x7, Value.int IntKind.i64 x8, Value.int IntKind.i64 x9, Value.int IntKind.i64 x10, Value.int IntKind.i64 x11, Value.int IntKind.i64 x12, Value.int IntKind.i64 x13, Value.int IntKind.i64 x14, Value.int IntKind.i64 x15]) = vagg; generalize (Value.tuple #[vagg, Value.bool true]) = vtup; clear HB BT BV BB
  gi_wp2_with (refine ⟨trivial, ?_⟩; gi_at_call 70; refine (used_in Fence.wide 2 trivial rfl _ _ _ _).mono ?_; rintro e w' ⟨rfl, rfl⟩)
  have bC := blk_new W2 (.cells #[Value.slice A l.length c] 68 (0, 0)); have bT3 := blk_alloc bT (.cells #[Value.slice A l.length c] 68 (0, 0)); have bV3 := blk_alloc bV (.cells #[Value.slice A l.length c] 68 (0, 0)); have bB3 := blk_alloc bB (.cells #[Value.slice A l.length c] 68 (0, 0)); have hB3 := below_alloc hB (.cells #[Value.slice A l.length c] 68 (0, 0))
  have hsz : (W2.alloc (.cells #[Value.slice A l.length c] 68 (0, 0))).heap.size = W2.heap.size + 1 := by simp only [World.size_alloc]
  generalize W2.alloc (.cells #[Value.slice A l.length c] 68 (0, 0)) = W3 at bC bT3 bV3 bB3 hB3 hsz ⊢; have hHL := HL.out; have hle := hB.size
  have hbl : ∀ ad, A = some ad → ad.block < w.heap.size := fun ad e => by
    subst e; obtain ⟨ad', e, hx⟩ := Kd.at_int hr 0 (by omega) (by omega)
    injection e with e
    subst e; exact World.block_lt_of_cell? w _ hx
  refine wpIn_rangeFunc_ownG rfl (by decide) (gf := 88) (lb := #[.pointer (some ⟨W2.heap.size, 0, none⟩)]) rfl trivial (enters_of Tryz.func88 (by kernel_rfl) rfl)
    (used_stops Fence.wide 2 trivial rfl (by omega) W2.heap.size w.heap.size A l.length c l rfl (by omega) hbl W3 (blk_lt bC) (by omega) ((blk_cell bC 0).trans rfl) (Kd.C_below hr hB3)) belowK_t (belowK_b (by omega)) (Below.refl _ _) (fun _ => rfl)
    (NewI w cs A l.length c gt gb) (fun _ _ _ => False) (newI_own w cs A l.length c gt gb _ (by omega)) (fun c => fun _ _ _ _ h _ _ => h)
    ⟨.slice none 0 0, Kd.R_nil _ _ _ _ _, bT3, bV3, bB3, hB3⟩ ?_ ?assign ?body ?done ?stop
  case assign =>
    intro l x W K hK
    gi_wp2
    exact hK
  case stop =>
    rintro D c pre W hD _ hF; exact hF.elim
  case body =>
    rintro lp pre ⟨sym, yv⟩ W ⟨v, hO, hT, hV, hBB, hB4⟩ hlt
    have hm : (pre ++ [(sym, yv)]).map (fun x => (x.1 : Int)) = pre.map (fun x => (x.1 : Int)) ++ [(sym : Int)] := by rw [List.map_append]; rfl
    have hml : (pre.map (fun x => (x.1 : Int))).length = pre.length := List.length_map _; have HN := Ak hB4.size; generalize pre.map (fun x => (x.1 : Int)) = ss at hO hml hm; have HM := Ak hm; have LM := Ak (show ss.length < 288 by omega); obtain ⟨A0, c0, ev⟩ := Kd.R_slice hO; subst ev
    gi_wp2
    have HO := Ak (Kd.R_drew hO); have BT := Ak (blk_drew hT); have BV := Ak (blk_drew hV); have BB := Ak (blk_drew hBB); have HBk := Ak (below_drew1 (Below.refl w.heap.size W)); have HK := Ak (show KeepsFrom W3.heap.size W W.drew from (KeepsOthers.drew W).from _); have HB4 := Ak hB4; clear hO hT hV hBB hB4 hm hml hlt; refine start_in (n := 11) (S := fun w' => w'.cell? ⟨gt + 1, 0, none⟩ = some (.pointer (some ⟨gt, 0, none⟩)) ∧ w'.cell? ⟨gt, 16, none⟩ = some (.slice A0 ss.length c0)) (ds := [10]) #[false, false, false, false, false, false, false, false, false, false, false] (fun ⟨_, _, h⟩ => h) (by kernel_rfl) (by kernel_rfl) rfl rfl ⟨(blk_cell BV.out 0).trans rfl, tblV_last BT.out HLEN.out⟩ (fun hHeld => ?_); generalize W.drew = wd at HO BT BV BB HBk HK hHeld ⊢; refine pq 5 31 ?_; refine tq 0 26 ?_ hHeld; refine tq 1 27 ?_ hHeld; refine pq 2 28 ?_; refine pq 3 29 ?_; refine tq 4 30 ?_ hHeld; refine oq 6 32 fun K hK => ?_; refine Kd.R_lit_step (Kd.int .i64) _ 3 ?hg (N := 32) ?hd (xs := ([(sym : Int)] : List Int)) (inner := [.int .i64 (sym : Int)]) (ok := fun _ => True) (okp := fun _ => True) ?hr ?hp (fun _ hk => hk) trivial (Below.refl _ _) (Nat.le_refl _) (by simp) ?_; (case hd => rfl); (case hg => rfl); (case hr => (go_simp; done)); (case hp => exact (Reps.snoc (Reps.none _ _) rfl rfl)); intro v1 w1 ho1 hb hg_ hnew_; obtain ⟨A1, c1, eo1⟩ := Kd.R_slice ho1; subst eo1; replace HL1 := Ak ((Kd.R_reads' ho1).2.2); replace HO := Ak (Kd.R_below HO.out hb); replace BT := Ak (blk_below BT.out hb); replace BV := Ak (blk_below BV.out hb); replace BB := Ak (blk_below BB.out hb); replace HBk := Ak (below_then HBk.out (Nat.le_trans HN.out HBk.out.size) hb); replace HK := Ak (keeps_below HK.out hb); clear hb hg_ hnew_ ho1; refine hK.out _ _ ⟨(blk_cell BV.out 0).trans rfl, tblV_last BT.out HLEN.out⟩ (fun hHeld => ?_); clear hK K; refine nq 32 ?_; refine oq 7 33 fun K hK => ?_; refine Kd.R_append_rows_step (Kd.int .i64) (w0 := W) w.heap.size (by rfl) (.tmp 30) (.tmp 32) 68 3 (.int .i64 0) 8 rfl Tryz.underlying68 info3 rfl (by decide) (by omega) (.slice A0 ss.length c0) ss [(sym : Int)] _ _ _ (fun _ => True) (fun _ => False) rfl rfl HO.out HL1.out (fun _ _ h => h) (fun _ h => h.elim) (fun _ _ => trivial) HBk.out (Nat.le_trans HN.out HBk.out.size) ?aL ?_
    (case aL => have := LM.out; simp; omega)
    intro v2 w2 ho hb hg hat; replace HK := Ak (keeps_grown HK.out hg (Kd.R_typed HO.out)); replace BT := Ak (blk_grown BT.out hg (Kd.R_ne HO.out BT.out (by decide))); replace BV := Ak (blk_grown BV.out hg (Kd.R_ne HO.out BV.out (by decide))); replace BB := Ak (blk_grown BB.out hg (Kd.R_ne HO.out BB.out (by decide))); replace HO := Ak (ho); replace HBk := Ak (hb); clear ho hb hg hat; obtain ⟨A2, c2, eo2⟩ := Kd.R_slice HO.out; subst eo2; refine hK.out _ _ ⟨(blk_cell BV.out 0).trans rfl, tblV_last BT.out HLEN.out⟩ (fun hHeld => ?_); clear hK K; refine nq 33 ?_; refine pq 8 34 ?_; refine pq 9 35 ?_; refine lq 10 fun K hK => ?_; have hz := tblV_last BT.out HLEN.out; have hf := blk_frozen BT.out 16; refine skip_ (w1 := ?_) (by rfl) rfl ?_ ?_; rotate_left
    · go_simp
      rfl
    refine hK.out _ _ ?_; clear hK K; refine dq ?_
    gi_wp2
    refine ⟨HK.out.trans ((KeepsOthers.setCell _ _ _).from _), HBk.out.setCell (p := ⟨gt, 16, none⟩) GT.out _, .slice A2 (ss.length + 1) c2, ?_, blk_put BT.out 16 _ (tblV_set HLEN.out _ _), blk_far (p := ⟨gt, 16, none⟩) BV.out (show gt + 1 ≠ gt by omega) _, blk_far (p := ⟨gt, 16, none⟩) BB.out NTB.out _, HB4.out.trans (HBk.out.setCell (p := ⟨gt, 16, none⟩) GT.out _)⟩
    have hlx : (ss ++ [(sym : Int)]).length = ss.length + 1 := by rw [List.length_append]; rfl
    have hx := HO.out; rw [hlx] at hx; rw [HM.out]; exact Kd.R_mono (Kd.R_far (p := ⟨gt, 16, none⟩) (Kd.R_types hx BT.out (by decide)) (fun _ hk => hk.2) _) (fun _ hk => trivial)
  case done =>
    rintro D xs W hD rfl ⟨v, hO, hT, hV, hBB, hB4⟩ hK; replace hO : Kd.R (Kd.int .i64) 3 W w.heap.size (fun _ => True) v (symsL l) := hO; obtain ⟨A5, c5, ev⟩ := Kd.R_slice hO; subst ev; have HSA := Ak (HS W w.heap.size gb (.slice A5 (symsL l).length c5) A c hO hBB (Kd.C_below hr hB4) hbl)
    have hND : some D ≠ (Value.slice A5 (symsL l).length c5).ownBlock := fun e => by
      obtain ⟨cells, hc⟩ := Kd.R_typed hO D e.symm; rw [hK] at hc; cases hc
    have HK := Ak hK; have HND := Ak hND; have HT := Ak hT; have HV := Ak hV; have HO := Ak hO; have HB4 := Ak hB4; have HDN := Ak (show w.heap.size ≤ D by omega); have hct : W.cell? ⟨gt + 1, 0, none⟩ = some (.pointer (some ⟨gt, 0, none⟩)) := (blk_cell hV 0).trans rfl; have hcs := tblV_last hT HLEN.out; obtain ⟨n, hn⟩ : ∃ n, (symsL l).length = n := ⟨_, rfl⟩; have HN := Ak hn; rw [hn] at NS hcs HSA HND HT HO; clear hK hND hT hV hO hB4 hBB hD hn
    by_cases y0 : y = 0
    · subst y0
      have hns : ns = 0 := by rw [NS.out, if_neg (fun h => h.1 rfl)]
      gi_wp2_with (refine ⟨trivial, ?_⟩; gi_at_call 71; refine (callsIn_wide.2 HSA.out).mono ?_; rintro e_ W5 ⟨rfl, hO5, hg5⟩; have HO5 := Ak hO5; have HT5 := Ak (blk_grown HT.out hg5 (Kd.R_ne HO.out HT.out (by decide))); have HV5 := Ak (blk_grown HV.out hg5 (Kd.R_ne HO.out HV.out (by decide))); have HK5 := Ak (blk_grown HK.out hg5 HND.out); have HB5 := Ak (pw_below_grown HB4.out _ HB4.out.size hg5 (fun k e => by obtain ⟨inner, ho⟩ := Kd.R_own HO.out; exact own_base ho k e)); clear hO5 hg5 hct hcs; have hct5 : W5.cell? ⟨gt + 1, 0, none⟩ = some (.pointer (some ⟨gt, 0, none⟩)) := (blk_cell HV5.out 0).trans rfl; have hcs5 := tblV_last HT5.out HLEN.out; have hc15 := tblV_at HT5.out HLEN.out 1 (by decide))
      any_goals (exfalso; rename_i hx_ hy_; exact absurd hx_ (by unfold undef; simp))
      refine ⟨by simp, .inl ⟨_, _, rfl, run_takeDeferred HK5.out, ?_⟩⟩; have hgD := grownBy_putObj' W5 D (.deferred none); have hBf := HB5.out.trans (belowK_b (w := w) (Nat.le_refl _) W5 D _ (.deferred none) HDN.out HK5.out rfl rfl); have e2 := blk_grown HT5.out hgD (by intro e; injection e with e; have h5 := HT5.out; rw [e, HK5.out] at h5; cases h5); have e3 := Kd.R_grown2 HO5.out rfl hgD (fun k e => by injection e with e; subst e; exact HND.out); refine ⟨.tuple #[.pointer (some ⟨gt, 0, none⟩), .int .i64 0], ?_, ⟨fun _ => ⟨gt, rfl, HLEN.out, GT.out, _, e2, e3⟩, fun h => absurd hns h, hBf⟩⟩
      (simp [results, Tryz.f46]; done)
    have y0b : (y == 0) = false := beq_eq_false_iff_ne.mpr y0; have y0c : (y != 0) = true := bne_iff_ne.mpr y0
    by_cases y12 : y = 12
    rotate_left
    · have y1b : (y == 12) = false := beq_eq_false_iff_ne.mpr y12; have y1c : (y != 12) = true := bne_iff_ne.mpr y12
      have hns : ns = y := by rw [NS.out, if_pos ⟨y0, .inl y12⟩]
      gi_wp2_with (refine ⟨trivial, ?_⟩; gi_at_call 71; refine (callsIn_wide.2 HSA.out).mono ?_; rintro e_ W5 ⟨rfl, hO5, hg5⟩; have HO5 := Ak hO5; have HT5 := Ak (blk_grown HT.out hg5 (Kd.R_ne HO.out HT.out (by decide))); have HV5 := Ak (blk_grown HV.out hg5 (Kd.R_ne HO.out HV.out (by decide))); have HK5 := Ak (blk_grown HK.out hg5 HND.out); have HB5 := Ak (pw_below_grown HB4.out _ HB4.out.size hg5 (fun k e => by obtain ⟨inner, ho⟩ := Kd.R_own HO.out; exact own_base ho k e)); clear hO5 hg5 hct hcs; have hct5 : W5.cell? ⟨gt + 1, 0, none⟩ = some (.pointer (some ⟨gt, 0, none⟩)) := (blk_cell HV5.out 0).trans rfl; have hcs5 := tblV_last HT5.out HLEN.out; have hc15 := tblV_at HT5.out HLEN.out 1 (by decide))
      refine ⟨by simp, .inl ⟨_, _, rfl, run_takeDeferred HK5.out, ?_⟩⟩; have hgD := grownBy_putObj' W5 D (.deferred none); have hBf := HB5.out.trans (belowK_b (w := w) (Nat.le_refl _) W5 D _ (.deferred none) HDN.out HK5.out rfl rfl); refine ⟨.tuple #[.pointer none, .int .i64 y], ?_, ⟨fun h => absurd h (by rw [hns]; exact y0), fun _ => by rw [hns], hBf⟩⟩
      (simp [results, Tryz.f46]; done)
    subst y12
    by_cases n1 : n = 1
    rotate_left
    · have n1b : ((n : Int) == 1) = false := beq_eq_false_iff_ne.mpr (by omega); have n1c : ((n : Int) != 1) = true := bne_iff_ne.mpr (by omega); have n1d := eq_false n1
      have hns : ns = 12 := by rw [NS.out, if_pos ⟨by decide, .inr (.inl n1)⟩]
      gi_wp2_with (refine ⟨trivial, ?_⟩; gi_at_call 71; refine (callsIn_wide.2 HSA.out).mono ?_; rintro e_ W5 ⟨rfl, hO5, hg5⟩; have HO5 := Ak hO5; have HT5 := Ak (blk_grown HT.out hg5 (Kd.R_ne HO.out HT.out (by decide))); have HV5 := Ak (blk_grown HV.out hg5 (Kd.R_ne HO.out HV.out (by decide))); have HK5 := Ak (blk_grown HK.out hg5 HND.out); have HB5 := Ak (pw_below_grown HB4.out _ HB4.out.size hg5 (fun k e => by obtain ⟨inner, ho⟩ := Kd.R_own HO.out; exact own_base ho k e)); clear hO5 hg5 hct hcs; have hct5 : W5.cell? ⟨gt + 1, 0, none⟩ = some (.pointer (some ⟨gt, 0, none⟩)) := (blk_cell HV5.out 0).trans rfl; have hcs5 := tblV_last HT5.out HLEN.out; have hc15 := tblV_at HT5.out HLEN.out 1 (by decide))
      refine ⟨by simp, .inl ⟨_, _, rfl, run_takeDeferred HK5.out, ?_⟩⟩; have hgD := grownBy_putObj' W5 D (.deferred none); have hBf := HB5.out.trans (belowK_b (w := w) (Nat.le_refl _) W5 D _ (.deferred none) HDN.out HK5.out rfl rfl); refine ⟨.tuple #[.pointer none, .int .i64 12], ?_, ⟨fun h => absurd h (by rw [hns]; decide), fun _ => by rw [hns], hBf⟩⟩
      (simp [results, Tryz.f46]; done)
    subst n1
    by_cases r1 : rd cs 1 = 1
    · have r1b : (rd cs 1 == 1) = true := beq_iff_eq.mpr r1; have r1c : (rd cs 1 != 1) = false := bne_eq_false_iff_eq.mpr r1
      have hns : ns = 0 := by rw [NS.out, if_neg (fun h => h.2.elim (fun h => h rfl) (fun h => h.elim (fun h => h rfl) (fun h => h r1)))]
      clear r1
      gi_wp2_with (refine ⟨trivial, ?_⟩; gi_at_call 71; refine (callsIn_wide.2 HSA.out).mono ?_; rintro e_ W5 ⟨rfl, hO5, hg5⟩; have HO5 := Ak hO5; have HT5 := Ak (blk_grown HT.out hg5 (Kd.R_ne HO.out HT.out (by decide))); have HV5 := Ak (blk_grown HV.out hg5 (Kd.R_ne HO.out HV.out (by decide))); have HK5 := Ak (blk_grown HK.out hg5 HND.out); have HB5 := Ak (pw_below_grown HB4.out _ HB4.out.size hg5 (fun k e => by obtain ⟨inner, ho⟩ := Kd.R_own HO.out; exact own_base ho k e)); clear hO5 hg5 hct hcs; have hct5 : W5.cell? ⟨gt + 1, 0, none⟩ = some (.pointer (some ⟨gt, 0, none⟩)) := (blk_cell HV5.out 0).trans rfl; have hcs5 := tblV_last HT5.out HLEN.out; have hc15 := tblV_at HT5.out HLEN.out 1 (by decide))
      refine ⟨by simp, .inl ⟨_, _, rfl, run_takeDeferred HK5.out, ?_⟩⟩; have hgD := grownBy_putObj' W5 D (.deferred none); have hBf := HB5.out.trans (belowK_b (w := w) (Nat.le_refl _) W5 D _ (.deferred none) HDN.out HK5.out rfl rfl); have e2 := blk_grown HT5.out hgD (by intro e; injection e with e; have h5 := HT5.out; rw [e, HK5.out] at h5; cases h5); have e3 := Kd.R_grown2 HO5.out rfl hgD (fun k e => by injection e with e; subst e; exact HND.out); refine ⟨.tuple #[.pointer (some ⟨gt, 0, none⟩), .int .i64 0], ?_, ⟨fun _ => ⟨gt, rfl, HLEN.out, GT.out, _, e2, e3⟩, fun h => absurd hns h, hBf⟩⟩
      (simp [results, Tryz.f46]; done)
    have r1b : (rd cs 1 == 1) = false := beq_eq_false_iff_ne.mpr r1; have r1c : (rd cs 1 != 1) = true := bne_iff_ne.mpr r1
    have hns : ns = 12 := by rw [NS.out, if_pos ⟨by decide, .inr (.inr r1)⟩]
    clear r1
    gi_wp2_with (refine ⟨trivial, ?_⟩; gi_at_call 71; refine (callsIn_wide.2 HSA.out).mono ?_; rintro e_ W5 ⟨rfl, hO5, hg5⟩; have HO5 := Ak hO5; have HT5 := Ak (blk_grown HT.out hg5 (Kd.R_ne HO.out HT.out (by decide))); have HV5 := Ak (blk_grown HV.out hg5 (Kd.R_ne HO.out HV.out (by decide))); have HK5 := Ak (blk_grown HK.out hg5 HND.out); have HB5 := Ak (pw_below_grown HB4.out _ HB4.out.size hg5 (fun k e => by obtain ⟨inner, ho⟩ := Kd.R_own HO.out; exact own_base ho k e)); clear hO5 hg5 hct hcs; have hct5 : W5.cell? ⟨gt + 1, 0, none⟩ = some (.pointer (some ⟨gt, 0, none⟩)) := (blk_cell HV5.out 0).trans rfl; have hcs5 := tblV_last HT5.out HLEN.out; have hc15 := tblV_at HT5.out HLEN.out 1 (by decide))
    refine ⟨by simp, .inl ⟨_, _, rfl, run_takeDeferred HK5.out, ?_⟩⟩; have hgD := grownBy_putObj' W5 D (.deferred none); have hBf := HB5.out.trans (belowK_b (w := w) (Nat.le_refl _) W5 D _ (.deferred none) HDN.out HK5.out rfl rfl); refine ⟨.tuple #[.pointer none, .int .i64 12], ?_, ⟨fun h => absurd h (by rw [hns]; decide), fun _ => by rw [hns], hBf⟩⟩
    (simp [results, Tryz.f46]; done)
end
section
theorem insertion_one (A : Option Addr) (n c : Nat) (hn : n ≤ 1) (f : Value) (w : World) : Calls Tryz.prog 94 #[.slice A n c, .int .i64 0, .int .i64 (n : Int), f] w fun e w' => e = .returned (.tuple #[]) ∧ w' = w := by
  have q1 := eq_false (show ¬ (1 : Int) < (n : Int) by omega); have q2 := eq_false (show ¬ 1 < n by omega); go_enter Tryz.func94, Tryz.ntmps94; go_wp2; refine wp_loop_rounds 1 ?_; rw [rounds_succ]; go_wp2
  go_end0
  exact ⟨rfl, rfl⟩
theorem stable_one (A : Option Addr) (n c : Nat) (hn : n ≤ 1) (f : Value) (w : World) : Calls Tryz.prog 93 #[.slice A n c, .int .i64 (n : Int), f] w fun e w' => e = .returned (.tuple #[]) ∧ w' = w := by
  have q1 := eq_false (show ¬ (20 : Int) ≤ (n : Int) by omega); have q2 := eq_false (show ¬ 20 ≤ n by omega); have q3 := eq_false (show ¬ (20 : Int) < (n : Int) by omega); have q4 := eq_false (show ¬ 20 < n by omega); go_enter Tryz.func93, Tryz.ntmps93; go_wp2; refine wp_loop_rounds 1 ?_; rw [rounds_succ]
  go_wp2_with (go_at_call 94; refine (insertion_one A n c hn f w).mono ?_; rintro e_ w3 ⟨rfl, rfl⟩)
  refine wp_loop_rounds 1 ?_; rw [rounds_succ]; go_wp2
  go_end0
  exact ⟨rfl, rfl⟩
theorem sort_one (A : Option Addr) (n c : Nat) (hn : n ≤ 1) (f : Value) (w : World) : Calls Tryz.prog 89 #[.slice A n c, f] w fun e w' => e = .returned (.tuple #[]) ∧ w' = w := by
  go_enter Tryz.func89, Tryz.ntmps89
  go_wp2_with (go_at_call 93; refine (stable_one A n c hn f w).mono ?_; rintro e_ w3 ⟨rfl, rfl⟩)
  go_end0
  exact ⟨rfl, rfl⟩
theorem ordered_one (l ss : List Int) (hn : ss.length ≤ 1) : OrderedAt l ss ss := by
  intro W base gb v A c hO _ _ _; obtain ⟨A0, c0, ev⟩ := Kd.R_slice hO; subst ev; have HO := Ak hO; clear hO; go_enter Tryz.func71, Tryz.ntmps71
  go_wp2_with (go_at_call 89; refine (sort_one A0 ss.length c0 hn _ _).mono ?_; rintro e_ w3 ⟨rfl, rfl⟩)
  go_end0
  have hb := below_alloc (Below.refl W.heap.size W) (.cells #[.func (.func 72) #[] #[.pointer (some ⟨gb, 0, none⟩)]] 63 (0, 0)); exact ⟨rfl, Kd.R_below HO.out hb, grown_of_below hb _⟩
end
end Go.Proofs.YtgflkkjhckcipaaGreatDoor.Hu

