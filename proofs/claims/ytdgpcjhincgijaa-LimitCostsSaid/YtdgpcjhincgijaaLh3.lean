-- A text by hand (wip/limit).
import Derived.RangeFuncNested
import Derived.RangeFuncBound
import Derived.RangeFuncCalls
import Derived.RangeFuncLeaves
import Derived.RangeFuncBox
import Derived.Shelf.Abstract
import Derived.Shelf.RegionOpen
import Derived.OwnWalkIn
import Derived.TacticsInMore
import Derived.LoopNIn
import Derived.LoopIn
import Derived.Test.YtdgpcjhincgijaaPr0
import Derived.Test.YtdgpcjhincgijaaLh2
namespace Go.Proofs.Ytdgpcjhincgijaa.Pr
open Go.RowKit Go.Shelf Go.Proofs.YtdgpcjhincgijaaW.PrintWords Go.Proofs.YtdgpcjhincgijaaW.PrintLast Go.Proofs.YtdgpcjhincgijaaW.PrintMore
set_option linter.unusedVariables false
set_option linter.unusedSimpArgs false
section
attribute [local go_sem] Oper.semAt_some
set_option maxRecDepth 100000 in
set_option maxHeartbeats 4000000 in
theorem counted_short (F : Fence) (n : Nat) (hF : F.fn 37) (hro : F.round = none) (A : Option Addr) (cap : Nat) (zs : List Int) (w : World) (hs : zs.length < 1 ∨ 288 < zs.length) :
    CallsIn F n Try.prog 37 #[.slice A zs.length cap] w (CountedPost zs w) := by
  have hall : countedS zs = (zero16, false) := by unfold countedS; rw [if_pos hs]
  have HA := Aside0.mk hall
  clear hall
  refine callsIn_of_wp Try.func37 rfl hF ?_ hro
  simp only [Try.ntmps37, List.size_toArray, List.length_cons, List.length_nil, Nat.reduceAdd, Nat.reduceSub, Array.replicate_succ, Array.replicate_zero, List.push_toArray, List.append_toArray, List.nil_append, List.cons_append]
  have bR2 := blk_alloc (blk_alloc (blk_new w (.cells #[Value.int IntKind.i64 0, Value.int IntKind.i64 0, Value.int IntKind.i64 0, Value.int IntKind.i64 0, Value.int IntKind.i64 0, Value.int IntKind.i64 0, Value.int IntKind.i64 0, Value.int IntKind.i64 0, Value.int IntKind.i64 0, Value.int IntKind.i64 0, Value.int IntKind.i64 0, Value.int IntKind.i64 0, Value.int IntKind.i64 0, Value.int IntKind.i64 0, Value.int IntKind.i64 0, Value.int IntKind.i64 0] 62 (0, 0))) (.cells #[.bool false] 4 (0, 0))) (.cells #[Value.int IntKind.i64 0, Value.int IntKind.i64 0, Value.int IntKind.i64 0, Value.int IntKind.i64 0, Value.int IntKind.i64 0, Value.int IntKind.i64 0, Value.int IntKind.i64 0, Value.int IntKind.i64 0, Value.int IntKind.i64 0, Value.int IntKind.i64 0, Value.int IntKind.i64 0, Value.int IntKind.i64 0, Value.int IntKind.i64 0, Value.int IntKind.i64 0, Value.int IntKind.i64 0, Value.int IntKind.i64 0] 62 (0, 0))
  have bR3 := blk_alloc (blk_new (w.alloc (.cells #[Value.int IntKind.i64 0, Value.int IntKind.i64 0, Value.int IntKind.i64 0, Value.int IntKind.i64 0, Value.int IntKind.i64 0, Value.int IntKind.i64 0, Value.int IntKind.i64 0, Value.int IntKind.i64 0, Value.int IntKind.i64 0, Value.int IntKind.i64 0, Value.int IntKind.i64 0, Value.int IntKind.i64 0, Value.int IntKind.i64 0, Value.int IntKind.i64 0, Value.int IntKind.i64 0, Value.int IntKind.i64 0] 62 (0, 0))) (.cells #[.bool false] 4 (0, 0))) (.cells #[Value.int IntKind.i64 0, Value.int IntKind.i64 0, Value.int IntKind.i64 0, Value.int IntKind.i64 0, Value.int IntKind.i64 0, Value.int IntKind.i64 0, Value.int IntKind.i64 0, Value.int IntKind.i64 0, Value.int IntKind.i64 0, Value.int IntKind.i64 0, Value.int IntKind.i64 0, Value.int IntKind.i64 0, Value.int IntKind.i64 0, Value.int IntKind.i64 0, Value.int IntKind.i64 0, Value.int IntKind.i64 0] 62 (0, 0))
  simp only [World.size_alloc] at bR3
  have hB0 : Below w.heap.size w (((w.alloc (.cells #[Value.int IntKind.i64 0, Value.int IntKind.i64 0, Value.int IntKind.i64 0, Value.int IntKind.i64 0, Value.int IntKind.i64 0, Value.int IntKind.i64 0, Value.int IntKind.i64 0, Value.int IntKind.i64 0, Value.int IntKind.i64 0, Value.int IntKind.i64 0, Value.int IntKind.i64 0, Value.int IntKind.i64 0, Value.int IntKind.i64 0, Value.int IntKind.i64 0, Value.int IntKind.i64 0, Value.int IntKind.i64 0] 62 (0, 0))).alloc (.cells #[.bool false] 4 (0, 0))).alloc (.cells #[Value.int IntKind.i64 0, Value.int IntKind.i64 0, Value.int IntKind.i64 0, Value.int IntKind.i64 0, Value.int IntKind.i64 0, Value.int IntKind.i64 0, Value.int IntKind.i64 0, Value.int IntKind.i64 0, Value.int IntKind.i64 0, Value.int IntKind.i64 0, Value.int IntKind.i64 0, Value.int IntKind.i64 0, Value.int IntKind.i64 0, Value.int IntKind.i64 0, Value.int IntKind.i64 0, Value.int IntKind.i64 0] 62 (0, 0))) := below_alloc (below_alloc (below_alloc (Below.refl _ _) _) _) _
  have H2 := Aside0.mk bR2
  have H3 := Aside0.mk bR3
  have HB := Aside0.mk hB0
  clear bR2 bR3 hB0
  rcases hs with hs | hs
  · have h1 := eq_true (show (zs.length : Int) < 1 by omega)
    have h2 := eq_true (show zs.length < 1 by omega)
    clear hs
    gi_wp2
    refine bodyPost_ret (results_arr_bool rfl _ _ w.heap.size 62 _ (0, 0) (w.heap.size + 1) _ rfl H2.out (by kernel_rfl) rfl ((blk_cell H3.out 0).trans rfl)) rfl ?_
    exact ⟨by rw [HA.out]; rfl, HB.out⟩
  · have h1 := eq_false (show ¬ (zs.length : Int) < 1 by omega)
    have h2 := eq_false (show ¬ zs.length < 1 by omega)
    have h3 := eq_true (show (288 : Int) < (zs.length : Int) by omega)
    have h4 := eq_true (show 288 < zs.length by omega)
    clear hs
    gi_wp2
    refine bodyPost_ret (results_arr_bool rfl _ _ w.heap.size 62 _ (0, 0) (w.heap.size + 1) _ rfl H2.out (by kernel_rfl) rfl ((blk_cell H3.out 0).trans rfl)) rfl ?_
    exact ⟨by rw [HA.out]; rfl, HB.out⟩
end
end Go.Proofs.Ytdgpcjhincgijaa.Pr
