-- A text by hand (wip/locks).
import Derived.RangeFuncNested
import Derived.RangeFuncBound
import Derived.RangeFuncCalls
import Derived.RangeFuncLeaves
import Derived.RangeFuncBox
import Derived.Shelf.Abstract
import Derived.Shelf.RegionOpen
import Derived.OwnWalkIn
import Derived.TacticsInMore
import Derived.LoopNIn
import Derived.LoopIn
import Derived.Test.YtdhabfjfpbdjfaaPr0
import Derived.Test.YtdhabfjfpbdjfaaLk14
import Derived.Test.YtdhabfjfpbdjfaaLk16
import Derived.Test.YtdhabfjfpbdjfaaLk17
namespace Go.Proofs.Ytdhabfjfpbdjfaa.Pr
open Go.RowKit Go.Shelf Go.Proofs.YtdhabfjfpbdjfaaW.PrintWords Go.Proofs.YtdhabfjfpbdjfaaW.PrintLast Go.Proofs.YtdhabfjfpbdjfaaW.PrintMore
set_option linter.unusedVariables false
set_option linter.unusedSimpArgs false
section
attribute [local go_sem] Oper.semAt_some
def doP (a : S30) (P : LP) : LP := if a.f0 = true then (freeP a.f1 a.f2 P).1 else (askP a.f1 a.f2 a.f3 P).1
theorem do_inv {P : LP} (hI : Inv P) (a : S30) : Inv (doP a P) := by
  unfold doP
  by_cases h : a.f0 = true
  · rw [if_pos h]; exact free_inv hI _ _
  · rw [if_neg h]; exact ask_inv hI _ _ _
set_option maxHeartbeats 8000000 in
set_option maxRecDepth 100000 in
theorem do_calls (gl : Nat) (a : S30) (P : LP) (w0 w : World) (hL : LA w w0.heap.size gl P) (hB : Below w0.heap.size w0 w) (hI : Inv P) :
    Calls Try.prog 19 #[.pointer (some ⟨gl, 0, none⟩), .agg #[.bool a.f0, .int .i64 a.f1, .string a.f2, .bool a.f3]] w fun e w' => e = .returned (.tuple #[]) ∧ LA w' w0.heap.size gl (doP a P) ∧ Below w0.heap.size w0 w' ∧ Off w w' := by
  obtain ⟨fr, who, key, wr_⟩ := a
  dsimp only
  have HB := Aside0.mk hB
  have HL := Aside0.mk hL
  have HS := Aside0.mk hI.small
  clear hB hL hI
  cases fr with
  | true =>
    go_enter Try.func19, Try.ntmps19
    go_wp2_with (first
        | ((with_reducible refine gate_dst (N := 3) rfl ?_); refine box_event ?hg (N := 3) ?hd (cs := #[.bool true, .int .i64 who, .string key, .bool wr_]) (t := 30) ?hr ?_; (case hd => rfl); (case hg => rfl); (case hr => first | (go_simp; done) | (go_simp; rfl)); intro gb hg wb hbox hb; have n0 := Aside0.mk (below_then HB.out HB.out.size hb); have n1 := Aside0.mk (LA.below HL.out hb); have n2 := Aside0.mk (off_below hb); have n3 := Aside0.mk (hbox); clear HB HL; have HB := n0; have HL := n1; have HO := n2; have HX := n3; clear n0 n1 n2 n3; clear hb hbox hg; have hx0 : wb.cell? ⟨gb, 0, none⟩ = some (.bool true) := (blk_cell HX.out 0).trans rfl; have hx1 : wb.cell? ⟨gb, 1, none⟩ = some (.int .i64 who) := (blk_cell HX.out 1).trans rfl; have hx2 : wb.cell? ⟨gb, 2, none⟩ = some (.string key) := (blk_cell HX.out 2).trans rfl; have hx3 : wb.cell? ⟨gb, 3, none⟩ = some (.bool wr_) := (blk_cell HX.out 3).trans rfl)
        | (go_at_call 12; refine (Free_off gl who key P w0 _ HL.out HB.out HS.out).mono ?_; rintro e_ w3 ⟨v_, rfl, _, hL', hB', ho⟩; have n0 := Aside0.mk (hB'); have n1 := Aside0.mk (hL'); have n2 := Aside0.mk (Off.trans HO.out ho); clear HB HL HO; have HB := n0; have HL := n1; have HO := n2; clear n0 n1 n2; clear hB' hL' ho)
        )
    (first | go_end0 | ((try simp only [Exit.inBlock, Exit.then]); refine bodyPost_ret (results_none rfl _ _ _) rfl ?_))
    exact ⟨rfl, HL.out, HB.out, HO.out⟩
  | false =>
    go_enter Try.func19, Try.ntmps19
    go_wp2_with (first
        | ((with_reducible refine gate_dst (N := 3) rfl ?_); refine box_event ?hg (N := 3) ?hd (cs := #[.bool false, .int .i64 who, .string key, .bool wr_]) (t := 30) ?hr ?_; (case hd => rfl); (case hg => rfl); (case hr => first | (go_simp; done) | (go_simp; rfl)); intro gb hg wb hbox hb; have n0 := Aside0.mk (below_then HB.out HB.out.size hb); have n1 := Aside0.mk (LA.below HL.out hb); have n2 := Aside0.mk (off_below hb); have n3 := Aside0.mk (hbox); clear HB HL; have HB := n0; have HL := n1; have HO := n2; have HX := n3; clear n0 n1 n2 n3; clear hb hbox hg; have hx0 : wb.cell? ⟨gb, 0, none⟩ = some (.bool false) := (blk_cell HX.out 0).trans rfl; have hx1 : wb.cell? ⟨gb, 1, none⟩ = some (.int .i64 who) := (blk_cell HX.out 1).trans rfl; have hx2 : wb.cell? ⟨gb, 2, none⟩ = some (.string key) := (blk_cell HX.out 2).trans rfl; have hx3 : wb.cell? ⟨gb, 3, none⟩ = some (.bool wr_) := (blk_cell HX.out 3).trans rfl)
        | (go_at_call 13; refine (Ask_off gl who key wr_ P w0 _ HL.out HB.out HS.out).mono ?_; rintro e_ w3 ⟨rfl, hL', hB', ho⟩; have n0 := Aside0.mk (hB'); have n1 := Aside0.mk (hL'); have n2 := Aside0.mk (Off.trans HO.out ho); clear HB HL HO; have HB := n0; have HL := n1; have HO := n2; clear n0 n1 n2; clear hB' hL' ho)
        )
    (first | go_end0 | ((try simp only [Exit.inBlock, Exit.then]); refine bodyPost_ret (results_none rfl _ _ _) rfl ?_))
    exact ⟨rfl, HL.out, HB.out, HO.out⟩
end
end Go.Proofs.Ytdhabfjfpbdjfaa.Pr
