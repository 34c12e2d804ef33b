-- Texts by hand and by programs of this session, joined (wip/tool/merge.py).
import Derived.RangeFuncNested
import Derived.RangeFuncBound
import Derived.RangeFuncCalls
import Derived.RangeFuncLeaves
import Derived.RangeFuncBox
import Derived.Shelf.Abstract
import Derived.Shelf.RegionOpen
import Derived.OwnWalkIn
import Derived.TacticsInMore
import Derived.LoopNIn
import Derived.LoopIn
import Derived.Test.YtgflkkjhckcipaaDoorMIC3
import Derived.Test.YtgflkkjhckcipaaDoorMIC4
-- YtgflkkjhckcipaaDoorHu2
set_option maxHeartbeats 16000000
set_option maxRecDepth 1000000
namespace Go.Proofs.YtgflkkjhckcipaaDoor.Hu
open Go.RowKit Go.Shelf Go.Proofs.YtgflkkjhckcipaaDoorW.PrintWords Go.Proofs.YtgflkkjhckcipaaDoorW.PrintLast Go.Proofs.YtgflkkjhckcipaaDoorW.PrintMore
set_option linter.unusedVariables false
set_option linter.unusedSimpArgs false
def vec16 (c : List Int) : Array Value := (c.map (Value.int .i64)).toArray
theorem blk_own {β : Type} (g : β → Nat) (t : β → TypeId) (cs : β → Array Value) : Own (fun (s : β) W => W.heap[g s]? = some (.cells (cs s) (t s) (0, 0))) := fun s A B row hs hg hr => (hg.block (g s) (blk_lt hs) (fun e => by
  obtain ⟨o, ho, hn⟩ := hr (g s) e.symm
  rw [hs] at ho
  injection ho with ho
  rw [← ho] at hn
  cases hn)).trans hs
theorem results_arr_bool {fn : Func} {p q : Tmp} (h : fn.results = #[.cell p 115, .cell q 4]) (tmps : Array Value) (w : World) (g : Nat) (t : TypeId) (cs : Array Value) (fr : Nat × Nat) (g2 : Nat) (b : Bool)
    (hp : tmps.getD p undef = .pointer (some ⟨g, 0, none⟩)) (hg : w.heap[g]? = some (.cells cs t fr))
    (hi : (Tryd.prog.info? 115).map (·.size) = some cs.size)
    (hq : tmps.getD q undef = .pointer (some ⟨g2, 0, none⟩)) (hb : w.cell? ⟨g2, 0, none⟩ = some (.bool b)) :
    (results fn tmps).run Tryd.prog w = .ok (.tuple #[.agg cs, .bool b]) w := by
  have hp' : tmps[p]?.getD undef = .pointer (some ⟨g, 0, none⟩) := by simpa using hp
  have hq' : tmps[q]?.getD undef = .pointer (some ⟨g2, 0, none⟩) := by simpa using hq
  have e1 := run_loadVar_row w g t 115 cs fr _ hg Tryd.underlying115 rfl hi
  have e2 : (loadVar 4 ⟨g2, 0, none⟩).run Tryd.prog w = .ok (.bool b) w := by
    have hu4 := Tryd.underlying4
    simp [loadVar, go_sem, hb]
  simp [results, h, hp', hq', asAddr, e1, e2]
theorem set16 {W : World} {g t : Nat} {c0 c1 c2 c3 c4 c5 c6 c7 c8 c9 c10 c11 c12 c13 c14 c15 : Value} (h : W.heap[g]? = some (.cells #[c0, c1, c2, c3, c4, c5, c6, c7, c8, c9, c10, c11, c12, c13, c14, c15] t (0, 0))) (v0 v1 v2 v3 v4 v5 v6 v7 v8 v9 v10 v11 v12 v13 v14 v15 : Value) :
    ((((((((((((((((W.setCell ⟨g, 0, none⟩ (v0)).setCell ⟨g, 1, none⟩ (v1)).setCell ⟨g, 2, none⟩ (v2)).setCell ⟨g, 3, none⟩ (v3)).setCell ⟨g, 4, none⟩ (v4)).setCell ⟨g, 5, none⟩ (v5)).setCell ⟨g, 6, none⟩ (v6)).setCell ⟨g, 7, none⟩ (v7)).setCell ⟨g, 8, none⟩ (v8)).setCell ⟨g, 9, none⟩ (v9)).setCell ⟨g, 10, none⟩ (v10)).setCell ⟨g, 11, none⟩ (v11)).setCell ⟨g, 12, none⟩ (v12)).setCell ⟨g, 13, none⟩ (v13)).setCell ⟨g, 14, none⟩ (v14)).setCell ⟨g, 15, none⟩ (v15)).heap[g]? = some (.cells #[v0, v1, v2, v3, v4, v5, v6, v7, v8, v9, v10, v11, v12, v13, v14, v15] t (0, 0)) := by
  have h := blk_put h 0 v0 (cs' := #[v0, c1, c2, c3, c4, c5, c6, c7, c8, c9, c10, c11, c12, c13, c14, c15]) rfl
  have h := blk_put h 1 v1 (cs' := #[v0, v1, c2, c3, c4, c5, c6, c7, c8, c9, c10, c11, c12, c13, c14, c15]) rfl
  have h := blk_put h 2 v2 (cs' := #[v0, v1, v2, c3, c4, c5, c6, c7, c8, c9, c10, c11, c12, c13, c14, c15]) rfl
  have h := blk_put h 3 v3 (cs' := #[v0, v1, v2, v3, c4, c5, c6, c7, c8, c9, c10, c11, c12, c13, c14, c15]) rfl
  have h := blk_put h 4 v4 (cs' := #[v0, v1, v2, v3, v4, c5, c6, c7, c8, c9, c10, c11, c12, c13, c14, c15]) rfl
  have h := blk_put h 5 v5 (cs' := #[v0, v1, v2, v3, v4, v5, c6, c7, c8, c9, c10, c11, c12, c13, c14, c15]) rfl
  have h := blk_put h 6 v6 (cs' := #[v0, v1, v2, v3, v4, v5, v6, c7, c8, c9, c10, c11, c12, c13, c14, c15]) rfl
  have h := blk_put h 7 v7 (cs' := #[v0, v1, v2, v3, v4, v5, v6, v7, c8, c9, c10, c11, c12, c13, c14, c15]) rfl
  have h := blk_put h 8 v8 (cs' := #[v0, v1, v2, v3, v4, v5, v6, v7, v8, c9, c10, c11, c12, c13, c14, c15]) rfl
  have h := blk_put h 9 v9 (cs' := #[v0, v1, v2, v3, v4, v5, v6, v7, v8, v9, c10, c11, c12, c13, c14, c15]) rfl
  have h := blk_put h 10 v10 (cs' := #[v0, v1, v2, v3, v4, v5, v6, v7, v8, v9, v10, c11, c12, c13, c14, c15]) rfl
  have h := blk_put h 11 v11 (cs' := #[v0, v1, v2, v3, v4, v5, v6, v7, v8, v9, v10, v11, c12, c13, c14, c15]) rfl
  have h := blk_put h 12 v12 (cs' := #[v0, v1, v2, v3, v4, v5, v6, v7, v8, v9, v10, v11, v12, c13, c14, c15]) rfl
  have h := blk_put h 13 v13 (cs' := #[v0, v1, v2, v3, v4, v5, v6, v7, v8, v9, v10, v11, v12, v13, c14, c15]) rfl
  have h := blk_put h 14 v14 (cs' := #[v0, v1, v2, v3, v4, v5, v6, v7, v8, v9, v10, v11, v12, v13, v14, c15]) rfl
  have h := blk_put h 15 v15 (cs' := #[v0, v1, v2, v3, v4, v5, v6, v7, v8, v9, v10, v11, v12, v13, v14, v15]) rfl
  exact h
theorem set16_keeps (W : World) (g : Nat) (v0 v1 v2 v3 v4 v5 v6 v7 v8 v9 v10 v11 v12 v13 v14 v15 : Value) : KeepsOthers W ((((((((((((((((W.setCell ⟨g, 0, none⟩ (v0)).setCell ⟨g, 1, none⟩ (v1)).setCell ⟨g, 2, none⟩ (v2)).setCell ⟨g, 3, none⟩ (v3)).setCell ⟨g, 4, none⟩ (v4)).setCell ⟨g, 5, none⟩ (v5)).setCell ⟨g, 6, none⟩ (v6)).setCell ⟨g, 7, none⟩ (v7)).setCell ⟨g, 8, none⟩ (v8)).setCell ⟨g, 9, none⟩ (v9)).setCell ⟨g, 10, none⟩ (v10)).setCell ⟨g, 11, none⟩ (v11)).setCell ⟨g, 12, none⟩ (v12)).setCell ⟨g, 13, none⟩ (v13)).setCell ⟨g, 14, none⟩ (v14)).setCell ⟨g, 15, none⟩ (v15)) := by
  refine KeepsOthers.trans ?_ (KeepsOthers.setCell _ _ _)
  refine KeepsOthers.trans ?_ (KeepsOthers.setCell _ _ _)
  refine KeepsOthers.trans ?_ (KeepsOthers.setCell _ _ _)
  refine KeepsOthers.trans ?_ (KeepsOthers.setCell _ _ _)
  refine KeepsOthers.trans ?_ (KeepsOthers.setCell _ _ _)
  refine KeepsOthers.trans ?_ (KeepsOthers.setCell _ _ _)
  refine KeepsOthers.trans ?_ (KeepsOthers.setCell _ _ _)
  refine KeepsOthers.trans ?_ (KeepsOthers.setCell _ _ _)
  refine KeepsOthers.trans ?_ (KeepsOthers.setCell _ _ _)
  refine KeepsOthers.trans ?_ (KeepsOthers.setCell _ _ _)
  refine KeepsOthers.trans ?_ (KeepsOthers.setCell _ _ _)
  refine KeepsOthers.trans ?_ (KeepsOthers.setCell _ _ _)
  refine KeepsOthers.trans ?_ (KeepsOthers.setCell _ _ _)
  refine KeepsOthers.trans ?_ (KeepsOthers.setCell _ _ _)
  refine KeepsOthers.trans ?_ (KeepsOthers.setCell _ _ _)
  exact KeepsOthers.setCell _ _ _
theorem set16_below {W w : World} {n₀ g : Nat} (h : Below n₀ w W) (hg : n₀ ≤ g) (v0 v1 v2 v3 v4 v5 v6 v7 v8 v9 v10 v11 v12 v13 v14 v15 : Value) : Below n₀ w ((((((((((((((((W.setCell ⟨g, 0, none⟩ (v0)).setCell ⟨g, 1, none⟩ (v1)).setCell ⟨g, 2, none⟩ (v2)).setCell ⟨g, 3, none⟩ (v3)).setCell ⟨g, 4, none⟩ (v4)).setCell ⟨g, 5, none⟩ (v5)).setCell ⟨g, 6, none⟩ (v6)).setCell ⟨g, 7, none⟩ (v7)).setCell ⟨g, 8, none⟩ (v8)).setCell ⟨g, 9, none⟩ (v9)).setCell ⟨g, 10, none⟩ (v10)).setCell ⟨g, 11, none⟩ (v11)).setCell ⟨g, 12, none⟩ (v12)).setCell ⟨g, 13, none⟩ (v13)).setCell ⟨g, 14, none⟩ (v14)).setCell ⟨g, 15, none⟩ (v15)) := by
  have h := Below.setCell (p := ⟨g, 0, none⟩) h hg v0
  have h := Below.setCell (p := ⟨g, 1, none⟩) h hg v1
  have h := Below.setCell (p := ⟨g, 2, none⟩) h hg v2
  have h := Below.setCell (p := ⟨g, 3, none⟩) h hg v3
  have h := Below.setCell (p := ⟨g, 4, none⟩) h hg v4
  have h := Below.setCell (p := ⟨g, 5, none⟩) h hg v5
  have h := Below.setCell (p := ⟨g, 6, none⟩) h hg v6
  have h := Below.setCell (p := ⟨g, 7, none⟩) h hg v7
  have h := Below.setCell (p := ⟨g, 8, none⟩) h hg v8
  have h := Below.setCell (p := ⟨g, 9, none⟩) h hg v9
  have h := Below.setCell (p := ⟨g, 10, none⟩) h hg v10
  have h := Below.setCell (p := ⟨g, 11, none⟩) h hg v11
  have h := Below.setCell (p := ⟨g, 12, none⟩) h hg v12
  have h := Below.setCell (p := ⟨g, 13, none⟩) h hg v13
  have h := Below.setCell (p := ⟨g, 14, none⟩) h hg v14
  have h := Below.setCell (p := ⟨g, 15, none⟩) h hg v15
  exact h
theorem set16_far {W : World} {g g' t : Nat} {cs : Array Value} (h : W.heap[g']? = some (.cells cs t (0, 0))) (hg : g' ≠ g) (v0 v1 v2 v3 v4 v5 v6 v7 v8 v9 v10 v11 v12 v13 v14 v15 : Value) : ((((((((((((((((W.setCell ⟨g, 0, none⟩ (v0)).setCell ⟨g, 1, none⟩ (v1)).setCell ⟨g, 2, none⟩ (v2)).setCell ⟨g, 3, none⟩ (v3)).setCell ⟨g, 4, none⟩ (v4)).setCell ⟨g, 5, none⟩ (v5)).setCell ⟨g, 6, none⟩ (v6)).setCell ⟨g, 7, none⟩ (v7)).setCell ⟨g, 8, none⟩ (v8)).setCell ⟨g, 9, none⟩ (v9)).setCell ⟨g, 10, none⟩ (v10)).setCell ⟨g, 11, none⟩ (v11)).setCell ⟨g, 12, none⟩ (v12)).setCell ⟨g, 13, none⟩ (v13)).setCell ⟨g, 14, none⟩ (v14)).setCell ⟨g, 15, none⟩ (v15)).heap[g']? = some (.cells cs t (0, 0)) := by
  have h := blk_far (p := ⟨g, 0, none⟩) h hg v0
  have h := blk_far (p := ⟨g, 1, none⟩) h hg v1
  have h := blk_far (p := ⟨g, 2, none⟩) h hg v2
  have h := blk_far (p := ⟨g, 3, none⟩) h hg v3
  have h := blk_far (p := ⟨g, 4, none⟩) h hg v4
  have h := blk_far (p := ⟨g, 5, none⟩) h hg v5
  have h := blk_far (p := ⟨g, 6, none⟩) h hg v6
  have h := blk_far (p := ⟨g, 7, none⟩) h hg v7
  have h := blk_far (p := ⟨g, 8, none⟩) h hg v8
  have h := blk_far (p := ⟨g, 9, none⟩) h hg v9
  have h := blk_far (p := ⟨g, 10, none⟩) h hg v10
  have h := blk_far (p := ⟨g, 11, none⟩) h hg v11
  have h := blk_far (p := ⟨g, 12, none⟩) h hg v12
  have h := blk_far (p := ⟨g, 13, none⟩) h hg v13
  have h := blk_far (p := ⟨g, 14, none⟩) h hg v14
  have h := blk_far (p := ⟨g, 15, none⟩) h hg v15
  exact h
section
attribute [local go_sem] Oper.semAt_some
theorem counted_in (F : Fence) (n : Nat) (hF : F.fn 56) (h26 : F.fn 57) (h41 : F.fn 68) (hro : F.round = none) (hn : 3 ≤ n) (A : Option Addr) (cap : Nat) (zs : List Int) (w : World) (hr : (Kd.int .i64).C w A zs.length zs) (hs : ¬ (zs.length < 1 ∨ 288 < zs.length)) (hbl : ∀ ad, A = some ad → ad.block < w.heap.size) :
    CallsIn F n Tryd.prog 56 #[.slice A zs.length cap] w (CountedPost zs w) := by
  have h1 : 1 ≤ n := by omega
  refine callsIn_of_wp_marks Tryd.func56 rfl hF ?_ hro
  simp only [Tryd.ntmps56, List.size_toArray, List.length_cons, List.length_nil, Nat.reduceAdd, Nat.reduceSub, Array.replicate_succ, Array.replicate_zero, List.push_toArray, List.append_toArray, List.nil_append, List.cons_append]
  have c1 := eq_false (show ¬ (zs.length : Int) < 1 by omega)
  have c2 := eq_false (show ¬ (zs.length : Int) > 288 by omega)
  obtain ⟨len, hl⟩ : ∃ m : Nat, zs.length = m := ⟨_, rfl⟩
  have d1 : decide ((zs.length : Int) < 1) = false := decide_eq_false (by omega)
  have d2 : decide ((288 : Int) < (zs.length : Int)) = false := decide_eq_false (by omega)
  have d3 := eq_false (show ¬ zs.length < 1 by omega)
  have d4 := eq_false (show ¬ 288 < zs.length by omega)
  clear hl
  gi_wp2_with (gi_at_call 57; refine (used_in F (n - 1) h26 hro _ _ _ _).mono ?_; rintro e w' ⟨rfl, rfl⟩)
  have bR2 := blk_alloc (blk_alloc (blk_alloc (blk_new w (.cells #[.int .i64 0, Value.int IntKind.i64 0, Value.int IntKind.i64 0, Value.int IntKind.i64 0, Value.int IntKind.i64 0, Value.int IntKind.i64 0, Value.int IntKind.i64 0, Value.int IntKind.i64 0, Value.int IntKind.i64 0, Value.int IntKind.i64 0, Value.int IntKind.i64 0, Value.int IntKind.i64 0, Value.int IntKind.i64 0, Value.int IntKind.i64 0, Value.int IntKind.i64 0, Value.int IntKind.i64 0] 115 (0, 0))) (.cells #[.bool false] 4 (0, 0))) (.cells #[.int .i64 0, Value.int IntKind.i64 0, Value.int IntKind.i64 0, Value.int IntKind.i64 0, Value.int IntKind.i64 0, Value.int IntKind.i64 0, Value.int IntKind.i64 0, Value.int IntKind.i64 0, Value.int IntKind.i64 0, Value.int IntKind.i64 0, Value.int IntKind.i64 0, Value.int IntKind.i64 0, Value.int IntKind.i64 0, Value.int IntKind.i64 0, Value.int IntKind.i64 0, Value.int IntKind.i64 0] 115 (0, 0))) (.cells #[.slice A zs.length cap] 32 (0, 0))
  have bR3 := blk_alloc (blk_alloc (blk_new (w.alloc (.cells #[.int .i64 0, Value.int IntKind.i64 0, Value.int IntKind.i64 0, Value.int IntKind.i64 0, Value.int IntKind.i64 0, Value.int IntKind.i64 0, Value.int IntKind.i64 0, Value.int IntKind.i64 0, Value.int IntKind.i64 0, Value.int IntKind.i64 0, Value.int IntKind.i64 0, Value.int IntKind.i64 0, Value.int IntKind.i64 0, Value.int IntKind.i64 0, Value.int IntKind.i64 0, Value.int IntKind.i64 0] 115 (0, 0))) (.cells #[.bool false] 4 (0, 0))) (.cells #[.int .i64 0, Value.int IntKind.i64 0, Value.int IntKind.i64 0, Value.int IntKind.i64 0, Value.int IntKind.i64 0, Value.int IntKind.i64 0, Value.int IntKind.i64 0, Value.int IntKind.i64 0, Value.int IntKind.i64 0, Value.int IntKind.i64 0, Value.int IntKind.i64 0, Value.int IntKind.i64 0, Value.int IntKind.i64 0, Value.int IntKind.i64 0, Value.int IntKind.i64 0, Value.int IntKind.i64 0] 115 (0, 0))) (.cells #[.slice A zs.length cap] 32 (0, 0))
  have bC := blk_alloc (blk_new ((w.alloc (.cells #[.int .i64 0, Value.int IntKind.i64 0, Value.int IntKind.i64 0, Value.int IntKind.i64 0, Value.int IntKind.i64 0, Value.int IntKind.i64 0, Value.int IntKind.i64 0, Value.int IntKind.i64 0, Value.int IntKind.i64 0, Value.int IntKind.i64 0, Value.int IntKind.i64 0, Value.int IntKind.i64 0, Value.int IntKind.i64 0, Value.int IntKind.i64 0, Value.int IntKind.i64 0, Value.int IntKind.i64 0] 115 (0, 0))).alloc (.cells #[.bool false] 4 (0, 0))) (.cells #[.int .i64 0, Value.int IntKind.i64 0, Value.int IntKind.i64 0, Value.int IntKind.i64 0, Value.int IntKind.i64 0, Value.int IntKind.i64 0, Value.int IntKind.i64 0, Value.int IntKind.i64 0, Value.int IntKind.i64 0, Value.int IntKind.i64 0, Value.int IntKind.i64 0, Value.int IntKind.i64 0, Value.int IntKind.i64 0, Value.int IntKind.i64 0, Value.int IntKind.i64 0, Value.int IntKind.i64 0] 115 (0, 0))) (.cells #[.slice A zs.length cap] 32 (0, 0))
  have bB := blk_new (((w.alloc (.cells #[.int .i64 0, Value.int IntKind.i64 0, Value.int IntKind.i64 0, Value.int IntKind.i64 0, Value.int IntKind.i64 0, Value.int IntKind.i64 0, Value.int IntKind.i64 0, Value.int IntKind.i64 0, Value.int IntKind.i64 0, Value.int IntKind.i64 0, Value.int IntKind.i64 0, Value.int IntKind.i64 0, Value.int IntKind.i64 0, Value.int IntKind.i64 0, Value.int IntKind.i64 0, Value.int IntKind.i64 0] 115 (0, 0))).alloc (.cells #[.bool false] 4 (0, 0))).alloc (.cells #[.int .i64 0, Value.int IntKind.i64 0, Value.int IntKind.i64 0, Value.int IntKind.i64 0, Value.int IntKind.i64 0, Value.int IntKind.i64 0, Value.int IntKind.i64 0, Value.int IntKind.i64 0, Value.int IntKind.i64 0, Value.int IntKind.i64 0, Value.int IntKind.i64 0, Value.int IntKind.i64 0, Value.int IntKind.i64 0, Value.int IntKind.i64 0, Value.int IntKind.i64 0, Value.int IntKind.i64 0] 115 (0, 0))) (.cells #[.slice A zs.length cap] 32 (0, 0))
  simp only [World.size_alloc] at bR3 bC bB
  have hB0 : Below w.heap.size w ((((w.alloc (.cells #[.int .i64 0, Value.int IntKind.i64 0, Value.int IntKind.i64 0, Value.int IntKind.i64 0, Value.int IntKind.i64 0, Value.int IntKind.i64 0, Value.int IntKind.i64 0, Value.int IntKind.i64 0, Value.int IntKind.i64 0, Value.int IntKind.i64 0, Value.int IntKind.i64 0, Value.int IntKind.i64 0, Value.int IntKind.i64 0, Value.int IntKind.i64 0, Value.int IntKind.i64 0, Value.int IntKind.i64 0] 115 (0, 0))).alloc (.cells #[.bool false] 4 (0, 0))).alloc (.cells #[.int .i64 0, Value.int IntKind.i64 0, Value.int IntKind.i64 0, Value.int IntKind.i64 0, Value.int IntKind.i64 0, Value.int IntKind.i64 0, Value.int IntKind.i64 0, Value.int IntKind.i64 0, Value.int IntKind.i64 0, Value.int IntKind.i64 0, Value.int IntKind.i64 0, Value.int IntKind.i64 0, Value.int IntKind.i64 0, Value.int IntKind.i64 0, Value.int IntKind.i64 0, Value.int IntKind.i64 0] 115 (0, 0))).alloc (.cells #[.slice A zs.length cap] 32 (0, 0))) := below_alloc (below_alloc (below_alloc (below_alloc (Below.refl _ _) _) _) _) _
  have hsz : ((((w.alloc (.cells #[.int .i64 0, Value.int IntKind.i64 0, Value.int IntKind.i64 0, Value.int IntKind.i64 0, Value.int IntKind.i64 0, Value.int IntKind.i64 0, Value.int IntKind.i64 0, Value.int IntKind.i64 0, Value.int IntKind.i64 0, Value.int IntKind.i64 0, Value.int IntKind.i64 0, Value.int IntKind.i64 0, Value.int IntKind.i64 0, Value.int IntKind.i64 0, Value.int IntKind.i64 0, Value.int IntKind.i64 0] 115 (0, 0))).alloc (.cells #[.bool false] 4 (0, 0))).alloc (.cells #[.int .i64 0, Value.int IntKind.i64 0, Value.int IntKind.i64 0, Value.int IntKind.i64 0, Value.int IntKind.i64 0, Value.int IntKind.i64 0, Value.int IntKind.i64 0, Value.int IntKind.i64 0, Value.int IntKind.i64 0, Value.int IntKind.i64 0, Value.int IntKind.i64 0, Value.int IntKind.i64 0, Value.int IntKind.i64 0, Value.int IntKind.i64 0, Value.int IntKind.i64 0, Value.int IntKind.i64 0] 115 (0, 0))).alloc (.cells #[.slice A zs.length cap] 32 (0, 0))).heap.size = w.heap.size + 4 := by simp only [World.size_alloc]
  generalize ((((w.alloc (.cells #[.int .i64 0, Value.int IntKind.i64 0, Value.int IntKind.i64 0, Value.int IntKind.i64 0, Value.int IntKind.i64 0, Value.int IntKind.i64 0, Value.int IntKind.i64 0, Value.int IntKind.i64 0, Value.int IntKind.i64 0, Value.int IntKind.i64 0, Value.int IntKind.i64 0, Value.int IntKind.i64 0, Value.int IntKind.i64 0, Value.int IntKind.i64 0, Value.int IntKind.i64 0, Value.int IntKind.i64 0] 115 (0, 0))).alloc (.cells #[.bool false] 4 (0, 0))).alloc (.cells #[.int .i64 0, Value.int IntKind.i64 0, Value.int IntKind.i64 0, Value.int IntKind.i64 0, Value.int IntKind.i64 0, Value.int IntKind.i64 0, Value.int IntKind.i64 0, Value.int IntKind.i64 0, Value.int IntKind.i64 0, Value.int IntKind.i64 0, Value.int IntKind.i64 0, Value.int IntKind.i64 0, Value.int IntKind.i64 0, Value.int IntKind.i64 0, Value.int IntKind.i64 0, Value.int IntKind.i64 0] 115 (0, 0))).alloc (.cells #[.slice A zs.length cap] 32 (0, 0))) = W0 at bR2 bR3 bC bB hB0 hsz ⊢
  have o1 : ∀ (g t : Nat) (cs : Array Value), OwnFrom (β := List (Nat × Int)) W0.heap.size (fun _ W => W.heap[g]? = some (.cells cs t (0, 0))) := fun g t cs => Own.from (blk_own (β := List (Nat × Int)) (fun _ => g) (fun _ => t) (fun _ => cs)) _
  have o2 : OwnFrom (β := List (Nat × Int)) W0.heap.size (fun pre W => W.heap[w.heap.size + 1 + 1]? = some (.cells (vec16 (cntL pre)) 115 (0, 0))) := Own.from (blk_own (fun _ => w.heap.size + 1 + 1) (fun _ => 115) (fun pre => vec16 (cntL pre))) _
  have o3 : OwnFrom (β := List (Nat × Int)) W0.heap.size (fun _ W => Below w.heap.size w W) := ownFrom_below (Nat.le_refl _) (by omega)
  refine wpIn_rangeFunc_ownG hro h1 (gf := 68) (lb := #[.pointer (some ⟨w.heap.size + 1 + 1 + 1, 0, none⟩)]) rfl h41 (enters_of Tryd.func68 (by kernel_rfl) rfl)
    (used_stops F (n - 1) h41 hro (by omega) (w.heap.size + 1 + 1 + 1) w.heap.size A zs.length cap zs rfl (by omega) hbl W0 (blk_lt bB) (by omega) ((blk_cell bB 0).trans rfl) (Kd.C_below hr hB0)) belowK_t (belowK_b (by omega)) (Below.refl _ _) (fun _ => rfl)
    (fun pre W => (∀ p ∈ pre, Lok p.2) ∧ W.heap[w.heap.size + 1 + 1]? = some (.cells (vec16 (cntL pre)) 115 (0, 0)) ∧ W.heap[w.heap.size]? = some (.cells #[.int .i64 0, Value.int IntKind.i64 0, Value.int IntKind.i64 0, Value.int IntKind.i64 0, Value.int IntKind.i64 0, Value.int IntKind.i64 0, Value.int IntKind.i64 0, Value.int IntKind.i64 0, Value.int IntKind.i64 0, Value.int IntKind.i64 0, Value.int IntKind.i64 0, Value.int IntKind.i64 0, Value.int IntKind.i64 0, Value.int IntKind.i64 0, Value.int IntKind.i64 0, Value.int IntKind.i64 0] 115 (0, 0)) ∧ W.heap[w.heap.size + 1]? = some (.cells #[.bool false] 4 (0, 0)) ∧ Below w.heap.size w W)
    (fun c pre W => (c = .ret ∧ ∃ ini last, pre = ini ++ [last] ∧ ¬ Lok last.2) ∧ W.heap[w.heap.size]? = some (.cells #[.int .i64 0, Value.int IntKind.i64 0, Value.int IntKind.i64 0, Value.int IntKind.i64 0, Value.int IntKind.i64 0, Value.int IntKind.i64 0, Value.int IntKind.i64 0, Value.int IntKind.i64 0, Value.int IntKind.i64 0, Value.int IntKind.i64 0, Value.int IntKind.i64 0, Value.int IntKind.i64 0, Value.int IntKind.i64 0, Value.int IntKind.i64 0, Value.int IntKind.i64 0, Value.int IntKind.i64 0] 115 (0, 0)) ∧ W.heap[w.heap.size + 1]? = some (.cells #[.bool false] 4 (0, 0)) ∧ Below w.heap.size w W)
    (OwnFrom.and (ownFrom_pure _ _) (OwnFrom.and o2 (OwnFrom.and (o1 _ _ _) (OwnFrom.and (o1 _ _ _) o3))))
    (fun c => OwnFrom.and (ownFrom_pure _ _) (OwnFrom.and (o1 _ _ _) (OwnFrom.and (o1 _ _ _) o3)))
    ⟨by simp, bC, bR2, bR3, hB0⟩
    (fun x => { tmps := #[.slice A zs.length cap, undef, .pointer (some ⟨w.heap.size, 0, none⟩), .pointer (some ⟨w.heap.size + 1, 0, none⟩), .pointer (some ⟨w.heap.size + 1 + 1, 0, none⟩), undef, .int .i64 x.2, .slice A zs.length cap, .int .i64 zs.length, .bool false, .bool false, .slice A zs.length cap, .int .i64 zs.length, .bool false, .bool false, undef, .slice A zs.length cap, .func (.func 68) #[] #[.pointer (some ⟨w.heap.size + 1 + 1 + 1, 0, none⟩)], .int .i64 (x.1 : Int), .int .i64 x.2, undef, undef, undef, undef, undef, undef, undef, undef, undef, undef, undef, undef, undef], defers := [] }) ?assign ?body ?done ?stop
  case assign =>
    intro l x W K hK
    gi_wp2
    exact hK
  case body =>
    rintro l pre x W ⟨hp, hC, hR2, hR3, hB⟩ _
    by_cases hx : Lok x.2
    · have q1 := eq_false (show ¬ x.2 < 0 from by have := hx.1; omega)
      have q2 := eq_false (show ¬ x.2 > 15 from by have := hx.2; omega)
      have q3 := eq_false (show ¬ 15 < x.2 from by have := hx.2; omega)
      obtain ⟨h0, h15⟩ := hx
      have hcl := cntL_len pre
      have hc : W.cell? ⟨w.heap.size + 1 + 1, x.2.toNat, none⟩ = some (.int .i64 (rd (cntL pre) x.2)) := by
        rw [blk_cell hC]
        unfold vec16 rd
        rw [List.getElem?_toArray, List.getElem?_map, List.getD_eq_getElem?_getD, List.getElem?_eq_getElem (show x.2.toNat < (cntL pre).length by omega)]
        rfl
      have hf := blk_frozen hC x.2.toNat
      have hi0 := eq_true h0
      have hi1 := eq_true (show x.2 < 16 by omega)
      have hi2 := eq_true (show x.2.toNat < 16 by omega)
      gi_wp2
      refine ⟨(KeepsOthers.setCell _ _ _).from _, (Below.refl w.heap.size W).setCell (p := ⟨w.heap.size + 1 + 1, x.2.toNat, none⟩) (show w.heap.size ≤ w.heap.size + 1 + 1 by omega) _, ⟨fun p hp' => (List.mem_append.1 hp').elim (hp p) (fun e => by simp at e; subst e; exact ⟨h0, h15⟩), ?_, blk_far (p := ⟨w.heap.size + 1 + 1, x.2.toNat, none⟩) hR2 (show w.heap.size ≠ w.heap.size + 1 + 1 by omega) _, blk_far (p := ⟨w.heap.size + 1 + 1, x.2.toNat, none⟩) hR3 (show w.heap.size + 1 ≠ w.heap.size + 1 + 1 by omega) _, hB.setCell (p := ⟨w.heap.size + 1 + 1, x.2.toNat, none⟩) (show w.heap.size ≤ w.heap.size + 1 + 1 by omega) _⟩⟩
      refine blk_put hC x.2.toNat _ ?_
      rw [cntL_snoc]
      unfold vec16 cntStep
      rw [List.setIfInBounds_toArray, List.map_set]
    by_cases hneg : x.2 < 0
    · have q1 := eq_true hneg
      have hc0 : W.cell? ⟨w.heap.size, 0, none⟩ = some (.int .i64 0) := (blk_cell hR2 0).trans rfl
      have hf0 := blk_frozen hR2 0
      have hc1 : W.cell? ⟨w.heap.size, 1, none⟩ = some (.int .i64 0) := (blk_cell hR2 1).trans rfl
      have hf1 := blk_frozen hR2 1
      have hc2 : W.cell? ⟨w.heap.size, 2, none⟩ = some (.int .i64 0) := (blk_cell hR2 2).trans rfl
      have hf2 := blk_frozen hR2 2
      have hc3 : W.cell? ⟨w.heap.size, 3, none⟩ = some (.int .i64 0) := (blk_cell hR2 3).trans rfl
      have hf3 := blk_frozen hR2 3
      have hc4 : W.cell? ⟨w.heap.size, 4, none⟩ = some (.int .i64 0) := (blk_cell hR2 4).trans rfl
      have hf4 := blk_frozen hR2 4
      have hc5 : W.cell? ⟨w.heap.size, 5, none⟩ = some (.int .i64 0) := (blk_cell hR2 5).trans rfl
      have hf5 := blk_frozen hR2 5
      have hc6 : W.cell? ⟨w.heap.size, 6, none⟩ = some (.int .i64 0) := (blk_cell hR2 6).trans rfl
      have hf6 := blk_frozen hR2 6
      have hc7 : W.cell? ⟨w.heap.size, 7, none⟩ = some (.int .i64 0) := (blk_cell hR2 7).trans rfl
      have hf7 := blk_frozen hR2 7
      have hc8 : W.cell? ⟨w.heap.size, 8, none⟩ = some (.int .i64 0) := (blk_cell hR2 8).trans rfl
      have hf8 := blk_frozen hR2 8
      have hc9 : W.cell? ⟨w.heap.size, 9, none⟩ = some (.int .i64 0) := (blk_cell hR2 9).trans rfl
      have hf9 := blk_frozen hR2 9
      have hc10 : W.cell? ⟨w.heap.size, 10, none⟩ = some (.int .i64 0) := (blk_cell hR2 10).trans rfl
      have hf10 := blk_frozen hR2 10
      have hc11 : W.cell? ⟨w.heap.size, 11, none⟩ = some (.int .i64 0) := (blk_cell hR2 11).trans rfl
      have hf11 := blk_frozen hR2 11
      have hc12 : W.cell? ⟨w.heap.size, 12, none⟩ = some (.int .i64 0) := (blk_cell hR2 12).trans rfl
      have hf12 := blk_frozen hR2 12
      have hc13 : W.cell? ⟨w.heap.size, 13, none⟩ = some (.int .i64 0) := (blk_cell hR2 13).trans rfl
      have hf13 := blk_frozen hR2 13
      have hc14 : W.cell? ⟨w.heap.size, 14, none⟩ = some (.int .i64 0) := (blk_cell hR2 14).trans rfl
      have hf14 := blk_frozen hR2 14
      have hc15 : W.cell? ⟨w.heap.size, 15, none⟩ = some (.int .i64 0) := (blk_cell hR2 15).trans rfl
      have hf15 := blk_frozen hR2 15
      have hcb : W.cell? ⟨w.heap.size + 1, 0, none⟩ = some (.bool false) := (blk_cell hR3 0).trans rfl
      have hfb := blk_frozen hR3 0
      gi_wp2
      refine ⟨((set16_keeps W w.heap.size _ _ _ _ _ _ _ _ _ _ _ _ _ _ _ _).trans (KeepsOthers.setCell _ _ _)).from _, ⟨⟨rfl, by first | exact ⟨pre, x, rfl, hx⟩ | exact ⟨pre, x.1, x.2, rfl, hx⟩⟩, blk_far (p := ⟨w.heap.size + 1, 0, none⟩) (set16 hR2 _ _ _ _ _ _ _ _ _ _ _ _ _ _ _ _) (show w.heap.size ≠ w.heap.size + 1 by omega) _, blk_put (set16_far hR3 (show w.heap.size + 1 ≠ w.heap.size by omega) _ _ _ _ _ _ _ _ _ _ _ _ _ _ _ _) 0 _ rfl, (set16_below hB (Nat.le_refl _) _ _ _ _ _ _ _ _ _ _ _ _ _ _ _ _).setCell (p := ⟨w.heap.size + 1, 0, none⟩) (show w.heap.size ≤ w.heap.size + 1 by omega) _⟩⟩
    have q1 := eq_false hneg
    have q2 := eq_true (show x.2 > 15 by unfold Lok at hx; omega)
    have q3 := eq_true (show 15 < x.2 by unfold Lok at hx; omega)
    have hc0 : W.cell? ⟨w.heap.size, 0, none⟩ = some (.int .i64 0) := (blk_cell hR2 0).trans rfl
    have hf0 := blk_frozen hR2 0
    have hc1 : W.cell? ⟨w.heap.size, 1, none⟩ = some (.int .i64 0) := (blk_cell hR2 1).trans rfl
    have hf1 := blk_frozen hR2 1
    have hc2 : W.cell? ⟨w.heap.size, 2, none⟩ = some (.int .i64 0) := (blk_cell hR2 2).trans rfl
    have hf2 := blk_frozen hR2 2
    have hc3 : W.cell? ⟨w.heap.size, 3, none⟩ = some (.int .i64 0) := (blk_cell hR2 3).trans rfl
    have hf3 := blk_frozen hR2 3
    have hc4 : W.cell? ⟨w.heap.size, 4, none⟩ = some (.int .i64 0) := (blk_cell hR2 4).trans rfl
    have hf4 := blk_frozen hR2 4
    have hc5 : W.cell? ⟨w.heap.size, 5, none⟩ = some (.int .i64 0) := (blk_cell hR2 5).trans rfl
    have hf5 := blk_frozen hR2 5
    have hc6 : W.cell? ⟨w.heap.size, 6, none⟩ = some (.int .i64 0) := (blk_cell hR2 6).trans rfl
    have hf6 := blk_frozen hR2 6
    have hc7 : W.cell? ⟨w.heap.size, 7, none⟩ = some (.int .i64 0) := (blk_cell hR2 7).trans rfl
    have hf7 := blk_frozen hR2 7
    have hc8 : W.cell? ⟨w.heap.size, 8, none⟩ = some (.int .i64 0) := (blk_cell hR2 8).trans rfl
    have hf8 := blk_frozen hR2 8
    have hc9 : W.cell? ⟨w.heap.size, 9, none⟩ = some (.int .i64 0) := (blk_cell hR2 9).trans rfl
    have hf9 := blk_frozen hR2 9
    have hc10 : W.cell? ⟨w.heap.size, 10, none⟩ = some (.int .i64 0) := (blk_cell hR2 10).trans rfl
    have hf10 := blk_frozen hR2 10
    have hc11 : W.cell? ⟨w.heap.size, 11, none⟩ = some (.int .i64 0) := (blk_cell hR2 11).trans rfl
    have hf11 := blk_frozen hR2 11
    have hc12 : W.cell? ⟨w.heap.size, 12, none⟩ = some (.int .i64 0) := (blk_cell hR2 12).trans rfl
    have hf12 := blk_frozen hR2 12
    have hc13 : W.cell? ⟨w.heap.size, 13, none⟩ = some (.int .i64 0) := (blk_cell hR2 13).trans rfl
    have hf13 := blk_frozen hR2 13
    have hc14 : W.cell? ⟨w.heap.size, 14, none⟩ = some (.int .i64 0) := (blk_cell hR2 14).trans rfl
    have hf14 := blk_frozen hR2 14
    have hc15 : W.cell? ⟨w.heap.size, 15, none⟩ = some (.int .i64 0) := (blk_cell hR2 15).trans rfl
    have hf15 := blk_frozen hR2 15
    have hcb : W.cell? ⟨w.heap.size + 1, 0, none⟩ = some (.bool false) := (blk_cell hR3 0).trans rfl
    have hfb := blk_frozen hR3 0
    gi_wp2
    refine ⟨((set16_keeps W w.heap.size _ _ _ _ _ _ _ _ _ _ _ _ _ _ _ _).trans (KeepsOthers.setCell _ _ _)).from _, ⟨⟨rfl, by first | exact ⟨pre, x, rfl, hx⟩ | exact ⟨pre, x.1, x.2, rfl, hx⟩⟩, blk_far (p := ⟨w.heap.size + 1, 0, none⟩) (set16 hR2 _ _ _ _ _ _ _ _ _ _ _ _ _ _ _ _) (show w.heap.size ≠ w.heap.size + 1 by omega) _, blk_put (set16_far hR3 (show w.heap.size + 1 ≠ w.heap.size by omega) _ _ _ _ _ _ _ _ _ _ _ _ _ _ _ _) 0 _ rfl, (set16_below hB (Nat.le_refl _) _ _ _ _ _ _ _ _ _ _ _ _ _ _ _ _).setCell (p := ⟨w.heap.size + 1, 0, none⟩) (show w.heap.size ≤ w.heap.size + 1 by omega) _⟩⟩
  case done =>
    rintro D ys W hD rfl ⟨hp, hC, hR2, hR3, hB⟩ hK
    have hall : (countedS zs) = (cntL (usedL zs zs.length), true) := by
      unfold countedS
      rw [if_neg hs, if_pos (List.all_eq_true.2 fun p hp' => decide_eq_true (hp p hp'))]
    have hlen := cntL_len (usedL zs zs.length)
    generalize cntL (usedL zs zs.length) = cl at hC hlen hall
    obtain ⟨x0, cl, rfl⟩ := List.exists_cons_of_length_pos (l := cl) (by omega)
    obtain ⟨x1, cl, rfl⟩ := List.exists_cons_of_length_pos (l := cl) (by simp only [List.length_cons] at hlen; omega)
    obtain ⟨x2, cl, rfl⟩ := List.exists_cons_of_length_pos (l := cl) (by simp only [List.length_cons] at hlen; omega)
    obtain ⟨x3, cl, rfl⟩ := List.exists_cons_of_length_pos (l := cl) (by simp only [List.length_cons] at hlen; omega)
    obtain ⟨x4, cl, rfl⟩ := List.exists_cons_of_length_pos (l := cl) (by simp only [List.length_cons] at hlen; omega)
    obtain ⟨x5, cl, rfl⟩ := List.exists_cons_of_length_pos (l := cl) (by simp only [List.length_cons] at hlen; omega)
    obtain ⟨x6, cl, rfl⟩ := List.exists_cons_of_length_pos (l := cl) (by simp only [List.length_cons] at hlen; omega)
    obtain ⟨x7, cl, rfl⟩ := List.exists_cons_of_length_pos (l := cl) (by simp only [List.length_cons] at hlen; omega)
    obtain ⟨x8, cl, rfl⟩ := List.exists_cons_of_length_pos (l := cl) (by simp only [List.length_cons] at hlen; omega)
    obtain ⟨x9, cl, rfl⟩ := List.exists_cons_of_length_pos (l := cl) (by simp only [List.length_cons] at hlen; omega)
    obtain ⟨x10, cl, rfl⟩ := List.exists_cons_of_length_pos (l := cl) (by simp only [List.length_cons] at hlen; omega)
    obtain ⟨x11, cl, rfl⟩ := List.exists_cons_of_length_pos (l := cl) (by simp only [List.length_cons] at hlen; omega)
    obtain ⟨x12, cl, rfl⟩ := List.exists_cons_of_length_pos (l := cl) (by simp only [List.length_cons] at hlen; omega)
    obtain ⟨x13, cl, rfl⟩ := List.exists_cons_of_length_pos (l := cl) (by simp only [List.length_cons] at hlen; omega)
    obtain ⟨x14, cl, rfl⟩ := List.exists_cons_of_length_pos (l := cl) (by simp only [List.length_cons] at hlen; omega)
    obtain ⟨x15, cl, rfl⟩ := List.exists_cons_of_length_pos (l := cl) (by simp only [List.length_cons] at hlen; omega)
    obtain rfl : cl = [] := List.eq_nil_of_length_eq_zero (by simp only [List.length_cons] at hlen; omega)
    replace hC : W.heap[w.heap.size + 1 + 1]? = some (.cells #[Value.int .i64 x0, Value.int .i64 x1, Value.int .i64 x2, Value.int .i64 x3, Value.int .i64 x4, Value.int .i64 x5, Value.int .i64 x6, Value.int .i64 x7, Value.int .i64 x8, Value.int .i64 x9, Value.int .i64 x10, Value.int .i64 x11, Value.int .i64 x12, Value.int .i64 x13, Value.int .i64 x14, Value.int .i64 x15] 115 (0, 0)) := hC
    have hx0 : W.cell? ⟨w.heap.size + 1 + 1, 0, none⟩ = some (Value.int .i64 x0) := (blk_cell hC 0).trans rfl
    have hx1 : W.cell? ⟨w.heap.size + 1 + 1, 1, none⟩ = some (Value.int .i64 x1) := (blk_cell hC 1).trans rfl
    have hx2 : W.cell? ⟨w.heap.size + 1 + 1, 2, none⟩ = some (Value.int .i64 x2) := (blk_cell hC 2).trans rfl
    have hx3 : W.cell? ⟨w.heap.size + 1 + 1, 3, none⟩ = some (Value.int .i64 x3) := (blk_cell hC 3).trans rfl
    have hx4 : W.cell? ⟨w.heap.size + 1 + 1, 4, none⟩ = some (Value.int .i64 x4) := (blk_cell hC 4).trans rfl
    have hx5 : W.cell? ⟨w.heap.size + 1 + 1, 5, none⟩ = some (Value.int .i64 x5) := (blk_cell hC 5).trans rfl
    have hx6 : W.cell? ⟨w.heap.size + 1 + 1, 6, none⟩ = some (Value.int .i64 x6) := (blk_cell hC 6).trans rfl
    have hx7 : W.cell? ⟨w.heap.size + 1 + 1, 7, none⟩ = some (Value.int .i64 x7) := (blk_cell hC 7).trans rfl
    have hx8 : W.cell? ⟨w.heap.size + 1 + 1, 8, none⟩ = some (Value.int .i64 x8) := (blk_cell hC 8).trans rfl
    have hx9 : W.cell? ⟨w.heap.size + 1 + 1, 9, none⟩ = some (Value.int .i64 x9) := (blk_cell hC 9).trans rfl
    have hx10 : W.cell? ⟨w.heap.size + 1 + 1, 10, none⟩ = some (Value.int .i64 x10) := (blk_cell hC 10).trans rfl
    have hx11 : W.cell? ⟨w.heap.size + 1 + 1, 11, none⟩ = some (Value.int .i64 x11) := (blk_cell hC 11).trans rfl
    have hx12 : W.cell? ⟨w.heap.size + 1 + 1, 12, none⟩ = some (Value.int .i64 x12) := (blk_cell hC 12).trans rfl
    have hx13 : W.cell? ⟨w.heap.size + 1 + 1, 13, none⟩ = some (Value.int .i64 x13) := (blk_cell hC 13).trans rfl
    have hx14 : W.cell? ⟨w.heap.size + 1 + 1, 14, none⟩ = some (Value.int .i64 x14) := (blk_cell hC 14).trans rfl
    have hx15 : W.cell? ⟨w.heap.size + 1 + 1, 15, none⟩ = some (Value.int .i64 x15) := (blk_cell hC 15).trans rfl
    have hz0 : W.cell? ⟨w.heap.size, 0, none⟩ = some (Value.int .i64 0) := (blk_cell hR2 0).trans rfl
    have hz1 : W.cell? ⟨w.heap.size, 1, none⟩ = some (Value.int .i64 0) := (blk_cell hR2 1).trans rfl
    have hz2 : W.cell? ⟨w.heap.size, 2, none⟩ = some (Value.int .i64 0) := (blk_cell hR2 2).trans rfl
    have hz3 : W.cell? ⟨w.heap.size, 3, none⟩ = some (Value.int .i64 0) := (blk_cell hR2 3).trans rfl
    have hz4 : W.cell? ⟨w.heap.size, 4, none⟩ = some (Value.int .i64 0) := (blk_cell hR2 4).trans rfl
    have hz5 : W.cell? ⟨w.heap.size, 5, none⟩ = some (Value.int .i64 0) := (blk_cell hR2 5).trans rfl
    have hz6 : W.cell? ⟨w.heap.size, 6, none⟩ = some (Value.int .i64 0) := (blk_cell hR2 6).trans rfl
    have hz7 : W.cell? ⟨w.heap.size, 7, none⟩ = some (Value.int .i64 0) := (blk_cell hR2 7).trans rfl
    have hz8 : W.cell? ⟨w.heap.size, 8, none⟩ = some (Value.int .i64 0) := (blk_cell hR2 8).trans rfl
    have hz9 : W.cell? ⟨w.heap.size, 9, none⟩ = some (Value.int .i64 0) := (blk_cell hR2 9).trans rfl
    have hz10 : W.cell? ⟨w.heap.size, 10, none⟩ = some (Value.int .i64 0) := (blk_cell hR2 10).trans rfl
    have hz11 : W.cell? ⟨w.heap.size, 11, none⟩ = some (Value.int .i64 0) := (blk_cell hR2 11).trans rfl
    have hz12 : W.cell? ⟨w.heap.size, 12, none⟩ = some (Value.int .i64 0) := (blk_cell hR2 12).trans rfl
    have hz13 : W.cell? ⟨w.heap.size, 13, none⟩ = some (Value.int .i64 0) := (blk_cell hR2 13).trans rfl
    have hz14 : W.cell? ⟨w.heap.size, 14, none⟩ = some (Value.int .i64 0) := (blk_cell hR2 14).trans rfl
    have hz15 : W.cell? ⟨w.heap.size, 15, none⟩ = some (Value.int .i64 0) := (blk_cell hR2 15).trans rfl
    have hf0 := blk_frozen hR2 0
    have hf1 := blk_frozen hR2 1
    have hf2 := blk_frozen hR2 2
    have hf3 := blk_frozen hR2 3
    have hf4 := blk_frozen hR2 4
    have hf5 := blk_frozen hR2 5
    have hf6 := blk_frozen hR2 6
    have hf7 := blk_frozen hR2 7
    have hf8 := blk_frozen hR2 8
    have hf9 := blk_frozen hR2 9
    have hf10 := blk_frozen hR2 10
    have hf11 := blk_frozen hR2 11
    have hf12 := blk_frozen hR2 12
    have hf13 := blk_frozen hR2 13
    have hf14 := blk_frozen hR2 14
    have hf15 := blk_frozen hR2 15
    have hcb : W.cell? ⟨w.heap.size + 1, 0, none⟩ = some (.bool false) := (blk_cell hR3 0).trans rfl
    have hfb := blk_frozen hR3 0
    have HA := Ak hall
    clear hall hlen
    gi_wp2
    have hKf := ((set16_keeps W w.heap.size (Value.int .i64 x0) (Value.int .i64 x1) (Value.int .i64 x2) (Value.int .i64 x3) (Value.int .i64 x4) (Value.int .i64 x5) (Value.int .i64 x6) (Value.int .i64 x7) (Value.int .i64 x8) (Value.int .i64 x9) (Value.int .i64 x10) (Value.int .i64 x11) (Value.int .i64 x12) (Value.int .i64 x13) (Value.int .i64 x14) (Value.int .i64 x15)).trans (KeepsOthers.setCell _ ⟨w.heap.size + 1, 0, none⟩ (.bool true))).same D _ hK rfl
    have hb2 := blk_far (p := ⟨w.heap.size + 1, 0, none⟩) (set16 hR2 (Value.int .i64 x0) (Value.int .i64 x1) (Value.int .i64 x2) (Value.int .i64 x3) (Value.int .i64 x4) (Value.int .i64 x5) (Value.int .i64 x6) (Value.int .i64 x7) (Value.int .i64 x8) (Value.int .i64 x9) (Value.int .i64 x10) (Value.int .i64 x11) (Value.int .i64 x12) (Value.int .i64 x13) (Value.int .i64 x14) (Value.int .i64 x15)) (show w.heap.size ≠ w.heap.size + 1 by omega) (.bool true)
    have hb3 := blk_put (set16_far hR3 (show w.heap.size + 1 ≠ w.heap.size by omega) (Value.int .i64 x0) (Value.int .i64 x1) (Value.int .i64 x2) (Value.int .i64 x3) (Value.int .i64 x4) (Value.int .i64 x5) (Value.int .i64 x6) (Value.int .i64 x7) (Value.int .i64 x8) (Value.int .i64 x9) (Value.int .i64 x10) (Value.int .i64 x11) (Value.int .i64 x12) (Value.int .i64 x13) (Value.int .i64 x14) (Value.int .i64 x15)) 0 (.bool true) (cs' := #[.bool true]) rfl
    have hBf := (set16_below hB (Nat.le_refl _) (Value.int .i64 x0) (Value.int .i64 x1) (Value.int .i64 x2) (Value.int .i64 x3) (Value.int .i64 x4) (Value.int .i64 x5) (Value.int .i64 x6) (Value.int .i64 x7) (Value.int .i64 x8) (Value.int .i64 x9) (Value.int .i64 x10) (Value.int .i64 x11) (Value.int .i64 x12) (Value.int .i64 x13) (Value.int .i64 x14) (Value.int .i64 x15)).setCell (p := ⟨w.heap.size + 1, 0, none⟩) (show w.heap.size ≤ w.heap.size + 1 by omega) (.bool true)
    generalize (((((((((((((((((W.setCell ⟨w.heap.size, 0, none⟩ (Value.int .i64 x0)).setCell ⟨w.heap.size, 1, none⟩ (Value.int .i64 x1)).setCell ⟨w.heap.size, 2, none⟩ (Value.int .i64 x2)).setCell ⟨w.heap.size, 3, none⟩ (Value.int .i64 x3)).setCell ⟨w.heap.size, 4, none⟩ (Value.int .i64 x4)).setCell ⟨w.heap.size, 5, none⟩ (Value.int .i64 x5)).setCell ⟨w.heap.size, 6, none⟩ (Value.int .i64 x6)).setCell ⟨w.heap.size, 7, none⟩ (Value.int .i64 x7)).setCell ⟨w.heap.size, 8, none⟩ (Value.int .i64 x8)).setCell ⟨w.heap.size, 9, none⟩ (Value.int .i64 x9)).setCell ⟨w.heap.size, 10, none⟩ (Value.int .i64 x10)).setCell ⟨w.heap.size, 11, none⟩ (Value.int .i64 x11)).setCell ⟨w.heap.size, 12, none⟩ (Value.int .i64 x12)).setCell ⟨w.heap.size, 13, none⟩ (Value.int .i64 x13)).setCell ⟨w.heap.size, 14, none⟩ (Value.int .i64 x14)).setCell ⟨w.heap.size, 15, none⟩ (Value.int .i64 x15)).setCell ⟨w.heap.size + 1, 0, none⟩ (.bool true)) = Wf at hKf hb2 hb3 hBf ⊢
    have e2 := ((grownBy_putObj' Wf D (.deferred none)).block w.heap.size (blk_lt hb2) (by intro e; injection e with e; omega)).trans hb2
    have e3 := ((grownBy_putObj' Wf D (.deferred none)).block (w.heap.size + 1) (blk_lt hb3) (by intro e; injection e with e; omega)).trans hb3
    refine ⟨by simp, .inl ⟨_, _, rfl, run_takeDeferred hKf, ?_⟩⟩
    have yb := (blk_cell e3 0).trans (show _ = some (Value.bool true) from rfl)
    refine ⟨.tuple #[agg16 [x0, x1, x2, x3, x4, x5, x6, x7, x8, x9, x10, x11, x12, x13, x14, x15], .bool true], ?_, by rw [HA.out], hBf.trans (belowK_b (w := w) (Nat.le_refl _) Wf D _ _ (by omega) hKf rfl rfl)⟩
    exact results_arr_bool rfl _ _ w.heap.size 115 _ (0, 0) (w.heap.size + 1) _ rfl e2 (by kernel_rfl) rfl yb
  case stop =>
    rintro D c pre W hD ⟨k, hk, rfl⟩ ⟨⟨rfl, ini, last, e1, e2⟩, hR2, hR3, hB⟩ hK
    have hall : countedS zs = (zero16, false) := by
      unfold countedS
      rw [if_neg hs, if_neg]
      intro h
      have hm : last ∈ usedL zs zs.length := usedL_sub zs hk last (by rw [e1]; simp)
      exact e2 (of_decide_eq_true (List.all_eq_true.1 h last hm))
    have HA := Ak hall
    clear hall e1 e2
    gi_wp2
    have e2 := ((grownBy_putObj' W D (.deferred none)).block w.heap.size (blk_lt hR2) (by intro e; injection e with e; omega)).trans hR2
    have e3 := ((grownBy_putObj' W D (.deferred none)).block (w.heap.size + 1) (blk_lt hR3) (by intro e; injection e with e; omega)).trans hR3
    refine ⟨by simp, .inl ⟨_, _, rfl, run_takeDeferred hK, ?_⟩⟩
    have yb := (blk_cell e3 0).trans (show _ = some (Value.bool false) from rfl)
    refine ⟨.tuple #[agg16 zero16, .bool false], ?_, by rw [HA.out], hB.trans (belowK_b (w := w) (Nat.le_refl _) W D _ _ (by omega) hK rfl rfl)⟩
    exact results_arr_bool rfl _ _ w.heap.size 115 _ (0, 0) (w.heap.size + 1) _ rfl e2 (by kernel_rfl) rfl yb
end
end Go.Proofs.YtgflkkjhckcipaaDoor.Hu

-- YtgflkkjhckcipaaDoorHu3
namespace Go.Proofs.YtgflkkjhckcipaaDoor.Hu
open Go.RowKit Go.Shelf Go.Proofs.YtgflkkjhckcipaaDoorW.PrintWords Go.Proofs.YtgflkkjhckcipaaDoorW.PrintLast Go.Proofs.YtgflkkjhckcipaaDoorW.PrintMore
set_option linter.unusedVariables false
set_option linter.unusedSimpArgs false
section
attribute [local go_sem] Oper.semAt_some
theorem counted_short (F : Fence) (n : Nat) (hF : F.fn 56) (hro : F.round = none) (A : Option Addr) (cap : Nat) (zs : List Int) (w : World) (hs : zs.length < 1 ∨ 288 < zs.length) :
    CallsIn F n Tryd.prog 56 #[.slice A zs.length cap] w (CountedPost zs w) := by
  have hall : countedS zs = (zero16, false) := by unfold countedS; rw [if_pos hs]
  have HA := Ak hall
  clear hall
  refine callsIn_of_wp Tryd.func56 rfl hF ?_ hro
  simp only [Tryd.ntmps56, List.size_toArray, List.length_cons, List.length_nil, Nat.reduceAdd, Nat.reduceSub, Array.replicate_succ, Array.replicate_zero, List.push_toArray, List.append_toArray, List.nil_append, List.cons_append]
  have bR2 := blk_alloc (blk_alloc (blk_new w (.cells #[.int .i64 0, Value.int IntKind.i64 0, Value.int IntKind.i64 0, Value.int IntKind.i64 0, Value.int IntKind.i64 0, Value.int IntKind.i64 0, Value.int IntKind.i64 0, Value.int IntKind.i64 0, Value.int IntKind.i64 0, Value.int IntKind.i64 0, Value.int IntKind.i64 0, Value.int IntKind.i64 0, Value.int IntKind.i64 0, Value.int IntKind.i64 0, Value.int IntKind.i64 0, Value.int IntKind.i64 0] 115 (0, 0))) (.cells #[.bool false] 4 (0, 0))) (.cells #[.int .i64 0, Value.int IntKind.i64 0, Value.int IntKind.i64 0, Value.int IntKind.i64 0, Value.int IntKind.i64 0, Value.int IntKind.i64 0, Value.int IntKind.i64 0, Value.int IntKind.i64 0, Value.int IntKind.i64 0, Value.int IntKind.i64 0, Value.int IntKind.i64 0, Value.int IntKind.i64 0, Value.int IntKind.i64 0, Value.int IntKind.i64 0, Value.int IntKind.i64 0, Value.int IntKind.i64 0] 115 (0, 0))
  have bR3 := blk_alloc (blk_new (w.alloc (.cells #[.int .i64 0, Value.int IntKind.i64 0, Value.int IntKind.i64 0, Value.int IntKind.i64 0, Value.int IntKind.i64 0, Value.int IntKind.i64 0, Value.int IntKind.i64 0, Value.int IntKind.i64 0, Value.int IntKind.i64 0, Value.int IntKind.i64 0, Value.int IntKind.i64 0, Value.int IntKind.i64 0, Value.int IntKind.i64 0, Value.int IntKind.i64 0, Value.int IntKind.i64 0, Value.int IntKind.i64 0] 115 (0, 0))) (.cells #[.bool false] 4 (0, 0))) (.cells #[.int .i64 0, Value.int IntKind.i64 0, Value.int IntKind.i64 0, Value.int IntKind.i64 0, Value.int IntKind.i64 0, Value.int IntKind.i64 0, Value.int IntKind.i64 0, Value.int IntKind.i64 0, Value.int IntKind.i64 0, Value.int IntKind.i64 0, Value.int IntKind.i64 0, Value.int IntKind.i64 0, Value.int IntKind.i64 0, Value.int IntKind.i64 0, Value.int IntKind.i64 0, Value.int IntKind.i64 0] 115 (0, 0))
  simp only [World.size_alloc] at bR3
  have hB0 : Below w.heap.size w (((w.alloc (.cells #[.int .i64 0, Value.int IntKind.i64 0, Value.int IntKind.i64 0, Value.int IntKind.i64 0, Value.int IntKind.i64 0, Value.int IntKind.i64 0, Value.int IntKind.i64 0, Value.int IntKind.i64 0, Value.int IntKind.i64 0, Value.int IntKind.i64 0, Value.int IntKind.i64 0, Value.int IntKind.i64 0, Value.int IntKind.i64 0, Value.int IntKind.i64 0, Value.int IntKind.i64 0, Value.int IntKind.i64 0] 115 (0, 0))).alloc (.cells #[.bool false] 4 (0, 0))).alloc (.cells #[.int .i64 0, Value.int IntKind.i64 0, Value.int IntKind.i64 0, Value.int IntKind.i64 0, Value.int IntKind.i64 0, Value.int IntKind.i64 0, Value.int IntKind.i64 0, Value.int IntKind.i64 0, Value.int IntKind.i64 0, Value.int IntKind.i64 0, Value.int IntKind.i64 0, Value.int IntKind.i64 0, Value.int IntKind.i64 0, Value.int IntKind.i64 0, Value.int IntKind.i64 0, Value.int IntKind.i64 0] 115 (0, 0))) := below_alloc (below_alloc (below_alloc (Below.refl _ _) _) _) _
  have H2 := Ak bR2
  have H3 := Ak bR3
  have HB := Ak hB0
  clear bR2 bR3 hB0
  rcases hs with hs | hs
  · have h1 := eq_true (show (zs.length : Int) < 1 by omega)
    have h2 := eq_true (show zs.length < 1 by omega)
    clear hs
    gi_wp2
    refine bodyPost_ret (results_arr_bool rfl _ _ w.heap.size 115 _ (0, 0) (w.heap.size + 1) _ rfl H2.out (by kernel_rfl) rfl ((blk_cell H3.out 0).trans rfl)) rfl ?_
    exact ⟨by rw [HA.out]; rfl, HB.out⟩
  have h1 := eq_false (show ¬ (zs.length : Int) < 1 by omega)
  have h2 := eq_false (show ¬ zs.length < 1 by omega)
  have h3 := eq_true (show (288 : Int) < (zs.length : Int) by omega)
  have h4 := eq_true (show 288 < zs.length by omega)
  clear hs
  gi_wp2
  refine bodyPost_ret (results_arr_bool rfl _ _ w.heap.size 115 _ (0, 0) (w.heap.size + 1) _ rfl H2.out (by kernel_rfl) rfl ((blk_cell H3.out 0).trans rfl)) rfl ?_
  exact ⟨by rw [HA.out]; rfl, HB.out⟩
end
end Go.Proofs.YtgflkkjhckcipaaDoor.Hu

-- YtgflkkjhckcipaaDoorHu4
namespace Go.Proofs.YtgflkkjhckcipaaDoor.Hu
open Go.RowKit Go.Shelf Go.Proofs.YtgflkkjhckcipaaDoorW.PrintWords Go.Proofs.YtgflkkjhckcipaaDoorW.PrintLast Go.Proofs.YtgflkkjhckcipaaDoorW.PrintMore
set_option linter.unusedVariables false
set_option linter.unusedSimpArgs false
theorem huff_counted.calls (A : Option Addr) (c : Nat) (zs : List Int) (w : World) (hr : (Kd.int .i64).C w A zs.length zs) : Calls Tryd.prog 56 #[.slice A zs.length c] w (CountedPost zs w) := by
  refine (callsIn_wide (n := 3)).1 ?_
  by_cases hs : zs.length < 1 ∨ 288 < zs.length
  · exact counted_short _ _ trivial rfl A c zs w hs
  refine counted_in _ _ trivial trivial trivial rfl (Nat.le_refl _) A c zs w hr hs (fun ad e => ?_)
  subst e
  obtain ⟨ad', e, hx⟩ := Kd.at_int hr 0 (by omega) (by omega)
  injection e with e
  subst e
  exact World.block_lt_of_cell? w _ hx
def roomF (c : List Int) : Nat → Int → Int
  | 0, left => left
  | d + 1, left => if wrap64 (wrap64 (2 * left) - rd c ((15 - d : Nat) : Int)) < 0 then wrap64 (wrap64 (2 * left) - rd c ((15 - d : Nat) : Int)) else roomF c d (wrap64 (wrap64 (2 * left) - rd c ((15 - d : Nat) : Int)))
def roomS (c : List Int) : Int := roomF c 15 1
section
attribute [local go_sem] Oper.semAt_some
theorem room_in (F : Fence) (n : Nat) (hF : F.fn 67) (hro : F.round = none) (g : Nat) (c : List Int) (hl : c.length = 16) (w : World) (hb : w.heap[g]? = some (.cells (vec16 c) 115 (0, 0))) :
    CallsIn F n Tryd.prog 67 #[.pointer (some ⟨g, 0, none⟩)] w fun e w' => e = .returned (.int .i64 (roomS c)) ∧ w' = w := by
  refine callsIn_of_wp Tryd.func67 rfl hF ?_ hro
  simp only [Tryd.ntmps67, List.size_toArray, List.length_cons, List.length_nil, Nat.reduceAdd, Nat.reduceSub, Array.replicate_succ, Array.replicate_zero, List.push_toArray, List.append_toArray, List.nil_append, List.cons_append]
  obtain ⟨rS, hS⟩ : ∃ r, roomS c = r := ⟨_, rfl⟩
  rw [hS]
  have HC : ∀ i : Nat, i < 16 → w.cell? ⟨g, i, none⟩ = some (.int .i64 (rd c (i : Int))) := fun i hi => by
    rw [blk_cell hb]
    unfold vec16 rd
    rw [List.getElem?_toArray, List.getElem?_map, List.getD_eq_getElem?_getD, Int.toNat_natCast, List.getElem?_eq_getElem (show i < c.length by omega)]
    rfl
  have HCA := Ak HC
  clear HC
  gi_wp2
  gi_loopw [3, 4] (fun x l wr => ∃ (d : Nat) (left : Int), d ≤ 15 ∧ x = .int .i64 left ∧ l = .int .i64 ((16 - d : Nat) : Int) ∧ roomF c d left = rS ∧ wr = w)
    (fun _ l _ => 16 - (intOf l).toNat)
  case atStart => exact ⟨15, 1, by omega, rfl, rfl, hS, rfl⟩
  case round =>
    obtain ⟨d, left, hd, rfl, rfl, hr, rfl⟩ := hrel
    cases d with
    | zero =>
      have q := eq_false (show ¬ ((16 - 0 : Nat) : Int) ≤ 15 by omega)
      simp only [roomF] at hr
      subst hr
      gi_wp2
      go_ret
      exact ⟨rfl, rfl⟩
    | succ d => ?_
    obtain ⟨m, hm⟩ : ∃ m : Nat, 16 - (d + 1) = m := ⟨_, rfl⟩
    rw [hm]
    have hm2 : 15 - d = m := by omega
    simp only [roomF, hm2] at hr
    have q := eq_true (show (m : Int) ≤ 15 by omega)
    have q0 := eq_true (show (0 : Int) ≤ (m : Int) by omega)
    have q1 := eq_true (show (m : Int) < 16 by omega)
    have q2 := eq_true (show m < 16 by omega)
    have q3 := eq_true (show m ≤ 15 by omega)
    have hc := HCA.out m (by omega)
    obtain ⟨y, hy⟩ : ∃ y, wrap64 (wrap64 (2 * left) - rd c (m : Int)) = y := ⟨_, rfl⟩
    rw [hy] at hr
    by_cases hneg : y < 0
    · rw [if_pos hneg] at hr
      subst hr
      have q4 := eq_true hneg
      gi_wp2
      go_ret
      exact ⟨by rw [← hy]; rfl, rfl⟩
    rw [if_neg hneg] at hr
    have q4 := eq_false hneg
    gi_wp2
    go_roundw
    case rel => exact ⟨d, y, by omega, by first | rfl | (simp [hy]; done) | (rw [← hy]), by first | rfl | (congr 1; omega) | (simp; omega), hr, by first | rfl | trivial⟩
    case measure => simp [intOf]; omega
end
theorem room.calls (g : Nat) (c : List Int) (hl : c.length = 16) (w : World) (hb : w.heap[g]? = some (.cells (vec16 c) 115 (0, 0))) : Calls Tryd.prog 67 #[.pointer (some ⟨g, 0, none⟩)] w fun e w' => e = .returned (.int .i64 (roomS c)) ∧ w' = w :=
  (callsIn_wide (n := 3)).1 (room_in _ _ trivial rfl g c hl w hb)
end Go.Proofs.YtgflkkjhckcipaaDoor.Hu

-- YtgflkkjhckcipaaDoorHu5
namespace Go.Proofs.YtgflkkjhckcipaaDoor.Hu
open Go.RowKit Go.Shelf Go.Proofs.YtgflkkjhckcipaaDoorW.PrintWords Go.Proofs.YtgflkkjhckcipaaDoorW.PrintLast Go.Proofs.YtgflkkjhckcipaaDoorW.PrintMore
set_option linter.unusedVariables false
set_option linter.unusedSimpArgs false
def checkS (zs : List Int) : Int := if (countedS zs).2 = false then 2 else if roomS (countedS zs).1 < 0 then 11 else if roomS (countedS zs).1 > 0 then 12 else 0
theorem countedS_len (zs : List Int) : (countedS zs).1.length = 16 := by
  unfold countedS
  split
  · rfl
  split
  · exact cntL_len _
  rfl
theorem huff_Check_in (A : Option Addr) (c : Nat) (l : List Int) (w : World) (hr : (Kd.int .i64).C w A l.length l) : Calls Tryd.prog 55 #[.slice A l.length c] w fun e w' => e = .returned (.int .i64 (checkS l)) ∧ Below w.heap.size w w' := by
  have hlen := countedS_len l
  have K := huff_counted.calls A c l w hr
  unfold CountedPost at K
  unfold checkS
  generalize countedS l = cs at hlen K ⊢
  obtain ⟨cl, ok⟩ := cs
  dsimp only at hlen K ⊢
  obtain ⟨x0, cl, rfl⟩ := List.exists_cons_of_length_pos (l := cl) (by omega)
  obtain ⟨x1, cl, rfl⟩ := List.exists_cons_of_length_pos (l := cl) (by simp only [List.length_cons] at hlen; omega)
  obtain ⟨x2, cl, rfl⟩ := List.exists_cons_of_length_pos (l := cl) (by simp only [List.length_cons] at hlen; omega)
  obtain ⟨x3, cl, rfl⟩ := List.exists_cons_of_length_pos (l := cl) (by simp only [List.length_cons] at hlen; omega)
  obtain ⟨x4, cl, rfl⟩ := List.exists_cons_of_length_pos (l := cl) (by simp only [List.length_cons] at hlen; omega)
  obtain ⟨x5, cl, rfl⟩ := List.exists_cons_of_length_pos (l := cl) (by simp only [List.length_cons] at hlen; omega)
  obtain ⟨x6, cl, rfl⟩ := List.exists_cons_of_length_pos (l := cl) (by simp only [List.length_cons] at hlen; omega)
  obtain ⟨x7, cl, rfl⟩ := List.exists_cons_of_length_pos (l := cl) (by simp only [List.length_cons] at hlen; omega)
  obtain ⟨x8, cl, rfl⟩ := List.exists_cons_of_length_pos (l := cl) (by simp only [List.length_cons] at hlen; omega)
  obtain ⟨x9, cl, rfl⟩ := List.exists_cons_of_length_pos (l := cl) (by simp only [List.length_cons] at hlen; omega)
  obtain ⟨x10, cl, rfl⟩ := List.exists_cons_of_length_pos (l := cl) (by simp only [List.length_cons] at hlen; omega)
  obtain ⟨x11, cl, rfl⟩ := List.exists_cons_of_length_pos (l := cl) (by simp only [List.length_cons] at hlen; omega)
  obtain ⟨x12, cl, rfl⟩ := List.exists_cons_of_length_pos (l := cl) (by simp only [List.length_cons] at hlen; omega)
  obtain ⟨x13, cl, rfl⟩ := List.exists_cons_of_length_pos (l := cl) (by simp only [List.length_cons] at hlen; omega)
  obtain ⟨x14, cl, rfl⟩ := List.exists_cons_of_length_pos (l := cl) (by simp only [List.length_cons] at hlen; omega)
  obtain ⟨x15, cl, rfl⟩ := List.exists_cons_of_length_pos (l := cl) (by simp only [List.length_cons] at hlen; omega)
  obtain rfl : cl = [] := List.eq_nil_of_length_eq_zero (by simp only [List.length_cons] at hlen; omega)
  have K2 := Ak K
  clear K hlen
  cases ok with
  | false =>
    go_enter Tryd.func55, Tryd.ntmps55
    go_wp2_with (first
        | (go_at_call 56; refine (K2.out).mono ?_; rintro e_ w3 ⟨rfl, hb⟩; have HB := Ak hb; clear hb; simp only [agg16, List.map_cons, List.map_nil])
        | ((with_reducible refine gate_dst (N := 3) rfl ?_); refine box_event ?hg (N := 3) ?hd (cs := #[.int .i64 0, .int .i64 0, .int .i64 0, .int .i64 0, .int .i64 0, .int .i64 0, .int .i64 0, .int .i64 0, .int .i64 0, .int .i64 0, .int .i64 0, .int .i64 0, .int .i64 0, .int .i64 0, .int .i64 0, .int .i64 0]) (t := 115) ?hr ?_; (case hd => rfl); (case hg => rfl); (case hr => first | (go_simp; done) | (go_simp; rfl)); intro g3 hg w4 hbox hb; have B3 := Ak hbox; have G3 := Ak (show w.heap.size ≤ g3 by rw [hg]; exact HB.out.size); have H4 := Ak (below_then HB.out HB.out.size hb); clear hg hbox hb; have hc0 : w4.cell? ⟨g3, 0, none⟩ = some (.int .i64 0) := (blk_cell B3.out 0).trans rfl; have hf0 := blk_frozen B3.out 0; have hc1 : w4.cell? ⟨g3, 1, none⟩ = some (.int .i64 0) := (blk_cell B3.out 1).trans rfl; have hf1 := blk_frozen B3.out 1; have hc2 : w4.cell? ⟨g3, 2, none⟩ = some (.int .i64 0) := (blk_cell B3.out 2).trans rfl; have hf2 := blk_frozen B3.out 2; have hc3 : w4.cell? ⟨g3, 3, none⟩ = some (.int .i64 0) := (blk_cell B3.out 3).trans rfl; have hf3 := blk_frozen B3.out 3; have hc4 : w4.cell? ⟨g3, 4, none⟩ = some (.int .i64 0) := (blk_cell B3.out 4).trans rfl; have hf4 := blk_frozen B3.out 4; have hc5 : w4.cell? ⟨g3, 5, none⟩ = some (.int .i64 0) := (blk_cell B3.out 5).trans rfl; have hf5 := blk_frozen B3.out 5; have hc6 : w4.cell? ⟨g3, 6, none⟩ = some (.int .i64 0) := (blk_cell B3.out 6).trans rfl; have hf6 := blk_frozen B3.out 6; have hc7 : w4.cell? ⟨g3, 7, none⟩ = some (.int .i64 0) := (blk_cell B3.out 7).trans rfl; have hf7 := blk_frozen B3.out 7; have hc8 : w4.cell? ⟨g3, 8, none⟩ = some (.int .i64 0) := (blk_cell B3.out 8).trans rfl; have hf8 := blk_frozen B3.out 8; have hc9 : w4.cell? ⟨g3, 9, none⟩ = some (.int .i64 0) := (blk_cell B3.out 9).trans rfl; have hf9 := blk_frozen B3.out 9; have hc10 : w4.cell? ⟨g3, 10, none⟩ = some (.int .i64 0) := (blk_cell B3.out 10).trans rfl; have hf10 := blk_frozen B3.out 10; have hc11 : w4.cell? ⟨g3, 11, none⟩ = some (.int .i64 0) := (blk_cell B3.out 11).trans rfl; have hf11 := blk_frozen B3.out 11; have hc12 : w4.cell? ⟨g3, 12, none⟩ = some (.int .i64 0) := (blk_cell B3.out 12).trans rfl; have hf12 := blk_frozen B3.out 12; have hc13 : w4.cell? ⟨g3, 13, none⟩ = some (.int .i64 0) := (blk_cell B3.out 13).trans rfl; have hf13 := blk_frozen B3.out 13; have hc14 : w4.cell? ⟨g3, 14, none⟩ = some (.int .i64 0) := (blk_cell B3.out 14).trans rfl; have hf14 := blk_frozen B3.out 14; have hc15 : w4.cell? ⟨g3, 15, none⟩ = some (.int .i64 0) := (blk_cell B3.out 15).trans rfl; have hf15 := blk_frozen B3.out 15)
        )
    go_ret
    exact ⟨rfl, set16_below H4.out G3.out _ _ _ _ _ _ _ _ _ _ _ _ _ _ _ _⟩
  | true => ?_
  obtain ⟨y, hy⟩ : ∃ y, roomS [x0, x1, x2, x3, x4, x5, x6, x7, x8, x9, x10, x11, x12, x13, x14, x15] = y := ⟨_, rfl⟩
  rw [hy]
  simp only [Bool.true_eq_false, if_false]
  by_cases h1 : y < 0
  · rw [if_pos h1]
    have q1 := eq_true h1
    go_enter Tryd.func55, Tryd.ntmps55
    go_wp2_with (first
        | (go_at_call 56; refine (K2.out).mono ?_; rintro e_ w3 ⟨rfl, hb⟩; have HB := Ak hb; clear hb; simp only [agg16, List.map_cons, List.map_nil])
        | ((with_reducible refine gate_dst (N := 3) rfl ?_); refine box_event ?hg (N := 3) ?hd (cs := #[.int .i64 0, .int .i64 0, .int .i64 0, .int .i64 0, .int .i64 0, .int .i64 0, .int .i64 0, .int .i64 0, .int .i64 0, .int .i64 0, .int .i64 0, .int .i64 0, .int .i64 0, .int .i64 0, .int .i64 0, .int .i64 0]) (t := 115) ?hr ?_; (case hd => rfl); (case hg => rfl); (case hr => first | (go_simp; done) | (go_simp; rfl)); intro g3 hg w4 hbox hb; have B3 := Ak hbox; have G3 := Ak (show w.heap.size ≤ g3 by rw [hg]; exact HB.out.size); have H4 := Ak (below_then HB.out HB.out.size hb); clear hg hbox hb; have hc0 : w4.cell? ⟨g3, 0, none⟩ = some (.int .i64 0) := (blk_cell B3.out 0).trans rfl; have hf0 := blk_frozen B3.out 0; have hc1 : w4.cell? ⟨g3, 1, none⟩ = some (.int .i64 0) := (blk_cell B3.out 1).trans rfl; have hf1 := blk_frozen B3.out 1; have hc2 : w4.cell? ⟨g3, 2, none⟩ = some (.int .i64 0) := (blk_cell B3.out 2).trans rfl; have hf2 := blk_frozen B3.out 2; have hc3 : w4.cell? ⟨g3, 3, none⟩ = some (.int .i64 0) := (blk_cell B3.out 3).trans rfl; have hf3 := blk_frozen B3.out 3; have hc4 : w4.cell? ⟨g3, 4, none⟩ = some (.int .i64 0) := (blk_cell B3.out 4).trans rfl; have hf4 := blk_frozen B3.out 4; have hc5 : w4.cell? ⟨g3, 5, none⟩ = some (.int .i64 0) := (blk_cell B3.out 5).trans rfl; have hf5 := blk_frozen B3.out 5; have hc6 : w4.cell? ⟨g3, 6, none⟩ = some (.int .i64 0) := (blk_cell B3.out 6).trans rfl; have hf6 := blk_frozen B3.out 6; have hc7 : w4.cell? ⟨g3, 7, none⟩ = some (.int .i64 0) := (blk_cell B3.out 7).trans rfl; have hf7 := blk_frozen B3.out 7; have hc8 : w4.cell? ⟨g3, 8, none⟩ = some (.int .i64 0) := (blk_cell B3.out 8).trans rfl; have hf8 := blk_frozen B3.out 8; have hc9 : w4.cell? ⟨g3, 9, none⟩ = some (.int .i64 0) := (blk_cell B3.out 9).trans rfl; have hf9 := blk_frozen B3.out 9; have hc10 : w4.cell? ⟨g3, 10, none⟩ = some (.int .i64 0) := (blk_cell B3.out 10).trans rfl; have hf10 := blk_frozen B3.out 10; have hc11 : w4.cell? ⟨g3, 11, none⟩ = some (.int .i64 0) := (blk_cell B3.out 11).trans rfl; have hf11 := blk_frozen B3.out 11; have hc12 : w4.cell? ⟨g3, 12, none⟩ = some (.int .i64 0) := (blk_cell B3.out 12).trans rfl; have hf12 := blk_frozen B3.out 12; have hc13 : w4.cell? ⟨g3, 13, none⟩ = some (.int .i64 0) := (blk_cell B3.out 13).trans rfl; have hf13 := blk_frozen B3.out 13; have hc14 : w4.cell? ⟨g3, 14, none⟩ = some (.int .i64 0) := (blk_cell B3.out 14).trans rfl; have hf14 := blk_frozen B3.out 14; have hc15 : w4.cell? ⟨g3, 15, none⟩ = some (.int .i64 0) := (blk_cell B3.out 15).trans rfl; have hf15 := blk_frozen B3.out 15)
        | (go_at_call 67; refine (room.calls g3 [x0, x1, x2, x3, x4, x5, x6, x7, x8, x9, x10, x11, x12, x13, x14, x15] rfl _ (set16 B3.out _ _ _ _ _ _ _ _ _ _ _ _ _ _ _ _)).mono ?_; rintro e_ w5 ⟨rfl, rfl⟩; rw [hy])
        )
    go_ret
    exact ⟨rfl, set16_below H4.out G3.out _ _ _ _ _ _ _ _ _ _ _ _ _ _ _ _⟩
  rw [if_neg h1]
  by_cases h2 : y > 0
  · rw [if_pos h2]
    have q1 := eq_false h1
    have q2 := eq_true h2
    have q3 := eq_true (show 0 < y from h2)
    go_enter Tryd.func55, Tryd.ntmps55
    go_wp2_with (first
        | (go_at_call 56; refine (K2.out).mono ?_; rintro e_ w3 ⟨rfl, hb⟩; have HB := Ak hb; clear hb; simp only [agg16, List.map_cons, List.map_nil])
        | ((with_reducible refine gate_dst (N := 3) rfl ?_); refine box_event ?hg (N := 3) ?hd (cs := #[.int .i64 0, .int .i64 0, .int .i64 0, .int .i64 0, .int .i64 0, .int .i64 0, .int .i64 0, .int .i64 0, .int .i64 0, .int .i64 0, .int .i64 0, .int .i64 0, .int .i64 0, .int .i64 0, .int .i64 0, .int .i64 0]) (t := 115) ?hr ?_; (case hd => rfl); (case hg => rfl); (case hr => first | (go_simp; done) | (go_simp; rfl)); intro g3 hg w4 hbox hb; have B3 := Ak hbox; have G3 := Ak (show w.heap.size ≤ g3 by rw [hg]; exact HB.out.size); have H4 := Ak (below_then HB.out HB.out.size hb); clear hg hbox hb; have hc0 : w4.cell? ⟨g3, 0, none⟩ = some (.int .i64 0) := (blk_cell B3.out 0).trans rfl; have hf0 := blk_frozen B3.out 0; have hc1 : w4.cell? ⟨g3, 1, none⟩ = some (.int .i64 0) := (blk_cell B3.out 1).trans rfl; have hf1 := blk_frozen B3.out 1; have hc2 : w4.cell? ⟨g3, 2, none⟩ = some (.int .i64 0) := (blk_cell B3.out 2).trans rfl; have hf2 := blk_frozen B3.out 2; have hc3 : w4.cell? ⟨g3, 3, none⟩ = some (.int .i64 0) := (blk_cell B3.out 3).trans rfl; have hf3 := blk_frozen B3.out 3; have hc4 : w4.cell? ⟨g3, 4, none⟩ = some (.int .i64 0) := (blk_cell B3.out 4).trans rfl; have hf4 := blk_frozen B3.out 4; have hc5 : w4.cell? ⟨g3, 5, none⟩ = some (.int .i64 0) := (blk_cell B3.out 5).trans rfl; have hf5 := blk_frozen B3.out 5; have hc6 : w4.cell? ⟨g3, 6, none⟩ = some (.int .i64 0) := (blk_cell B3.out 6).trans rfl; have hf6 := blk_frozen B3.out 6; have hc7 : w4.cell? ⟨g3, 7, none⟩ = some (.int .i64 0) := (blk_cell B3.out 7).trans rfl; have hf7 := blk_frozen B3.out 7; have hc8 : w4.cell? ⟨g3, 8, none⟩ = some (.int .i64 0) := (blk_cell B3.out 8).trans rfl; have hf8 := blk_frozen B3.out 8; have hc9 : w4.cell? ⟨g3, 9, none⟩ = some (.int .i64 0) := (blk_cell B3.out 9).trans rfl; have hf9 := blk_frozen B3.out 9; have hc10 : w4.cell? ⟨g3, 10, none⟩ = some (.int .i64 0) := (blk_cell B3.out 10).trans rfl; have hf10 := blk_frozen B3.out 10; have hc11 : w4.cell? ⟨g3, 11, none⟩ = some (.int .i64 0) := (blk_cell B3.out 11).trans rfl; have hf11 := blk_frozen B3.out 11; have hc12 : w4.cell? ⟨g3, 12, none⟩ = some (.int .i64 0) := (blk_cell B3.out 12).trans rfl; have hf12 := blk_frozen B3.out 12; have hc13 : w4.cell? ⟨g3, 13, none⟩ = some (.int .i64 0) := (blk_cell B3.out 13).trans rfl; have hf13 := blk_frozen B3.out 13; have hc14 : w4.cell? ⟨g3, 14, none⟩ = some (.int .i64 0) := (blk_cell B3.out 14).trans rfl; have hf14 := blk_frozen B3.out 14; have hc15 : w4.cell? ⟨g3, 15, none⟩ = some (.int .i64 0) := (blk_cell B3.out 15).trans rfl; have hf15 := blk_frozen B3.out 15)
        | (go_at_call 67; refine (room.calls g3 [x0, x1, x2, x3, x4, x5, x6, x7, x8, x9, x10, x11, x12, x13, x14, x15] rfl _ (set16 B3.out _ _ _ _ _ _ _ _ _ _ _ _ _ _ _ _)).mono ?_; rintro e_ w5 ⟨rfl, rfl⟩; rw [hy])
        )
    go_ret
    exact ⟨rfl, set16_below H4.out G3.out _ _ _ _ _ _ _ _ _ _ _ _ _ _ _ _⟩
  rw [if_neg h2]
  have q1 := eq_false h1
  have q2 := eq_false h2
  have q3 := eq_false (show ¬ 0 < y from h2)
  go_enter Tryd.func55, Tryd.ntmps55
  go_wp2_with (first
      | (go_at_call 56; refine (K2.out).mono ?_; rintro e_ w3 ⟨rfl, hb⟩; have HB := Ak hb; clear hb; simp only [agg16, List.map_cons, List.map_nil])
      | ((with_reducible refine gate_dst (N := 3) rfl ?_); refine box_event ?hg (N := 3) ?hd (cs := #[.int .i64 0, .int .i64 0, .int .i64 0, .int .i64 0, .int .i64 0, .int .i64 0, .int .i64 0, .int .i64 0, .int .i64 0, .int .i64 0, .int .i64 0, .int .i64 0, .int .i64 0, .int .i64 0, .int .i64 0, .int .i64 0]) (t := 115) ?hr ?_; (case hd => rfl); (case hg => rfl); (case hr => first | (go_simp; done) | (go_simp; rfl)); intro g3 hg w4 hbox hb; have B3 := Ak hbox; have G3 := Ak (show w.heap.size ≤ g3 by rw [hg]; exact HB.out.size); have H4 := Ak (below_then HB.out HB.out.size hb); clear hg hbox hb; have hc0 : w4.cell? ⟨g3, 0, none⟩ = some (.int .i64 0) := (blk_cell B3.out 0).trans rfl; have hf0 := blk_frozen B3.out 0; have hc1 : w4.cell? ⟨g3, 1, none⟩ = some (.int .i64 0) := (blk_cell B3.out 1).trans rfl; have hf1 := blk_frozen B3.out 1; have hc2 : w4.cell? ⟨g3, 2, none⟩ = some (.int .i64 0) := (blk_cell B3.out 2).trans rfl; have hf2 := blk_frozen B3.out 2; have hc3 : w4.cell? ⟨g3, 3, none⟩ = some (.int .i64 0) := (blk_cell B3.out 3).trans rfl; have hf3 := blk_frozen B3.out 3; have hc4 : w4.cell? ⟨g3, 4, none⟩ = some (.int .i64 0) := (blk_cell B3.out 4).trans rfl; have hf4 := blk_frozen B3.out 4; have hc5 : w4.cell? ⟨g3, 5, none⟩ = some (.int .i64 0) := (blk_cell B3.out 5).trans rfl; have hf5 := blk_frozen B3.out 5; have hc6 : w4.cell? ⟨g3, 6, none⟩ = some (.int .i64 0) := (blk_cell B3.out 6).trans rfl; have hf6 := blk_frozen B3.out 6; have hc7 : w4.cell? ⟨g3, 7, none⟩ = some (.int .i64 0) := (blk_cell B3.out 7).trans rfl; have hf7 := blk_frozen B3.out 7; have hc8 : w4.cell? ⟨g3, 8, none⟩ = some (.int .i64 0) := (blk_cell B3.out 8).trans rfl; have hf8 := blk_frozen B3.out 8; have hc9 : w4.cell? ⟨g3, 9, none⟩ = some (.int .i64 0) := (blk_cell B3.out 9).trans rfl; have hf9 := blk_frozen B3.out 9; have hc10 : w4.cell? ⟨g3, 10, none⟩ = some (.int .i64 0) := (blk_cell B3.out 10).trans rfl; have hf10 := blk_frozen B3.out 10; have hc11 : w4.cell? ⟨g3, 11, none⟩ = some (.int .i64 0) := (blk_cell B3.out 11).trans rfl; have hf11 := blk_frozen B3.out 11; have hc12 : w4.cell? ⟨g3, 12, none⟩ = some (.int .i64 0) := (blk_cell B3.out 12).trans rfl; have hf12 := blk_frozen B3.out 12; have hc13 : w4.cell? ⟨g3, 13, none⟩ = some (.int .i64 0) := (blk_cell B3.out 13).trans rfl; have hf13 := blk_frozen B3.out 13; have hc14 : w4.cell? ⟨g3, 14, none⟩ = some (.int .i64 0) := (blk_cell B3.out 14).trans rfl; have hf14 := blk_frozen B3.out 14; have hc15 : w4.cell? ⟨g3, 15, none⟩ = some (.int .i64 0) := (blk_cell B3.out 15).trans rfl; have hf15 := blk_frozen B3.out 15)
      | (go_at_call 67; refine (room.calls g3 [x0, x1, x2, x3, x4, x5, x6, x7, x8, x9, x10, x11, x12, x13, x14, x15] rfl _ (set16 B3.out _ _ _ _ _ _ _ _ _ _ _ _ _ _ _ _)).mono ?_; rintro e_ w5 ⟨rfl, rfl⟩; rw [hy])
      )
  go_ret
  exact ⟨rfl, set16_below H4.out G3.out _ _ _ _ _ _ _ _ _ _ _ _ _ _ _ _⟩
end Go.Proofs.YtgflkkjhckcipaaDoor.Hu

