-- Texts by hand and by programs of this session, joined (wip/tool/merge.py).
import Derived.RangeFuncNested
import Derived.RangeFuncBound
import Derived.RangeFuncCalls
import Derived.RangeFuncLeaves
import Derived.RangeFuncBox
import Derived.Shelf.Abstract
import Derived.Shelf.RegionOpen
import Derived.OwnWalkIn
import Derived.TacticsInMore
import Derived.LoopNIn
import Derived.LoopIn
import Derived.Test.YtdgpcjhincgijaaMLQ4
import Derived.Test.YtdgpcjhincgijaaMLQ12
import Derived.Test.YtdgpcjhincgijaaMLQ11
import Derived.Test.YtdgpcjhincgijaaMLQ9
import Derived.Test.YtdgpcjhincgijaaProg
import Derived.Below
import Derived.Deep.Draws
import Derived.Deep.AppendLies
import Derived.Maps.AppendAt
import Derived.OwnWalk
import Derived.Laws.BytesArg
import Derived.Laws.MakeOwn
import Derived.Laws.OwnMore
import Derived.Deep.OwnRows
import Derived.Tactics
import Derived.Lib.ConvBytes
import Derived.Laws.Slices
import Derived.WalkKit
import Derived.KernelRfl
import Derived.RowKit3
import Derived.Deep.LoopGhost
import Derived.Deep.QuietTactic
import Derived.BigQuiet
import Derived.WideLaws
import Derived.Deep.DeepCutAuto
import Derived.Deep.CutBlock
import Derived.Deep.RegionHeld3
import Derived.Laws.Rows
import Derived.Lib.AppendStr
import Derived.ArgAppend
import Derived.Laws.IdiomCopy
import Derived.OrdersHeld
import Derived.Laws.BitsLemmas
import Derived.RowKit
import Derived.Lib.SliceRun
import Derived.Laws.BitsAllLaws
import Derived.Test.YtdgpcjhincgijaaMLQ1
import Derived.Test.YtdgpcjhincgijaaMLQ2
import Derived.Test.YtdgpcjhincgijaaMLQ3
-- YtdgpcjhincgijaaLh5
namespace Go.Proofs.Ytdgpcjhincgijaa.Pr
open Go.RowKit Go.Shelf Go.Proofs.YtdgpcjhincgijaaW.PrintWords Go.Proofs.YtdgpcjhincgijaaW.PrintLast Go.Proofs.YtdgpcjhincgijaaW.PrintMore
set_option linter.unusedVariables false
set_option linter.unusedSimpArgs false
def checkS (zs : List Int) : Int := if (countedS zs).2 = false then 2 else if roomS (countedS zs).1 < 0 then 11 else if roomS (countedS zs).1 > 0 then 12 else 0
theorem countedS_len (zs : List Int) : (countedS zs).1.length = 16 := by
  unfold countedS
  split
  · rfl
  · split
    · exact cntL_len _
    · rfl
set_option maxRecDepth 100000 in
set_option maxHeartbeats 4000000 in
theorem huff_Check_in (A : Option Addr) (c : Nat) (l : List Int) (w : World) (hr : (Kd.int .i64).C w A l.length l) : Calls Try.prog 30 #[.slice A l.length c] w fun e w' => e = .returned (.int .i64 (checkS l)) ∧ Below w.heap.size w w' := by
  have hlen := countedS_len l
  have K := huff_counted.calls A c l w hr
  unfold CountedPost at K
  unfold checkS
  generalize countedS l = cs at hlen K ⊢
  obtain ⟨cl, ok⟩ := cs
  dsimp only at hlen K ⊢
  obtain ⟨x0, cl, rfl⟩ := List.exists_cons_of_length_pos (l := cl) (by omega)
  obtain ⟨x1, cl, rfl⟩ := List.exists_cons_of_length_pos (l := cl) (by simp only [List.length_cons] at hlen; omega)
  obtain ⟨x2, cl, rfl⟩ := List.exists_cons_of_length_pos (l := cl) (by simp only [List.length_cons] at hlen; omega)
  obtain ⟨x3, cl, rfl⟩ := List.exists_cons_of_length_pos (l := cl) (by simp only [List.length_cons] at hlen; omega)
  obtain ⟨x4, cl, rfl⟩ := List.exists_cons_of_length_pos (l := cl) (by simp only [List.length_cons] at hlen; omega)
  obtain ⟨x5, cl, rfl⟩ := List.exists_cons_of_length_pos (l := cl) (by simp only [List.length_cons] at hlen; omega)
  obtain ⟨x6, cl, rfl⟩ := List.exists_cons_of_length_pos (l := cl) (by simp only [List.length_cons] at hlen; omega)
  obtain ⟨x7, cl, rfl⟩ := List.exists_cons_of_length_pos (l := cl) (by simp only [List.length_cons] at hlen; omega)
  obtain ⟨x8, cl, rfl⟩ := List.exists_cons_of_length_pos (l := cl) (by simp only [List.length_cons] at hlen; omega)
  obtain ⟨x9, cl, rfl⟩ := List.exists_cons_of_length_pos (l := cl) (by simp only [List.length_cons] at hlen; omega)
  obtain ⟨x10, cl, rfl⟩ := List.exists_cons_of_length_pos (l := cl) (by simp only [List.length_cons] at hlen; omega)
  obtain ⟨x11, cl, rfl⟩ := List.exists_cons_of_length_pos (l := cl) (by simp only [List.length_cons] at hlen; omega)
  obtain ⟨x12, cl, rfl⟩ := List.exists_cons_of_length_pos (l := cl) (by simp only [List.length_cons] at hlen; omega)
  obtain ⟨x13, cl, rfl⟩ := List.exists_cons_of_length_pos (l := cl) (by simp only [List.length_cons] at hlen; omega)
  obtain ⟨x14, cl, rfl⟩ := List.exists_cons_of_length_pos (l := cl) (by simp only [List.length_cons] at hlen; omega)
  obtain ⟨x15, cl, rfl⟩ := List.exists_cons_of_length_pos (l := cl) (by simp only [List.length_cons] at hlen; omega)
  obtain rfl : cl = [] := List.eq_nil_of_length_eq_zero (by simp only [List.length_cons] at hlen; omega)
  have K2 := Aside0.mk K
  clear K hlen
  cases ok with
  | false =>
    go_enter Try.func30, Try.ntmps30
    go_wp2_with (first
        | (go_at_call 37; refine (K2.out).mono ?_; rintro e_ w3 ⟨rfl, hb⟩; have HB := Aside0.mk hb; clear hb; simp only [agg16, List.map_cons, List.map_nil])
        | ((with_reducible refine gate_dst (N := 3) rfl ?_); refine box_event ?hg (N := 3) ?hd (cs := #[.int .i64 0, .int .i64 0, .int .i64 0, .int .i64 0, .int .i64 0, .int .i64 0, .int .i64 0, .int .i64 0, .int .i64 0, .int .i64 0, .int .i64 0, .int .i64 0, .int .i64 0, .int .i64 0, .int .i64 0, .int .i64 0]) (t := 62) ?hr ?_; (case hd => rfl); (case hg => rfl); (case hr => first | (go_simp; done) | (go_simp; rfl)); intro g3 hg w4 hbox hb; have B3 := Aside0.mk hbox; have G3 := Aside0.mk (show w.heap.size ≤ g3 by rw [hg]; exact HB.out.size); have H4 := Aside0.mk (below_then HB.out HB.out.size hb); clear hg hbox hb; have hc0 : w4.cell? ⟨g3, 0, none⟩ = some (.int .i64 0) := (blk_cell B3.out 0).trans rfl; have hf0 := blk_frozen B3.out 0; have hc1 : w4.cell? ⟨g3, 1, none⟩ = some (.int .i64 0) := (blk_cell B3.out 1).trans rfl; have hf1 := blk_frozen B3.out 1; have hc2 : w4.cell? ⟨g3, 2, none⟩ = some (.int .i64 0) := (blk_cell B3.out 2).trans rfl; have hf2 := blk_frozen B3.out 2; have hc3 : w4.cell? ⟨g3, 3, none⟩ = some (.int .i64 0) := (blk_cell B3.out 3).trans rfl; have hf3 := blk_frozen B3.out 3; have hc4 : w4.cell? ⟨g3, 4, none⟩ = some (.int .i64 0) := (blk_cell B3.out 4).trans rfl; have hf4 := blk_frozen B3.out 4; have hc5 : w4.cell? ⟨g3, 5, none⟩ = some (.int .i64 0) := (blk_cell B3.out 5).trans rfl; have hf5 := blk_frozen B3.out 5; have hc6 : w4.cell? ⟨g3, 6, none⟩ = some (.int .i64 0) := (blk_cell B3.out 6).trans rfl; have hf6 := blk_frozen B3.out 6; have hc7 : w4.cell? ⟨g3, 7, none⟩ = some (.int .i64 0) := (blk_cell B3.out 7).trans rfl; have hf7 := blk_frozen B3.out 7; have hc8 : w4.cell? ⟨g3, 8, none⟩ = some (.int .i64 0) := (blk_cell B3.out 8).trans rfl; have hf8 := blk_frozen B3.out 8; have hc9 : w4.cell? ⟨g3, 9, none⟩ = some (.int .i64 0) := (blk_cell B3.out 9).trans rfl; have hf9 := blk_frozen B3.out 9; have hc10 : w4.cell? ⟨g3, 10, none⟩ = some (.int .i64 0) := (blk_cell B3.out 10).trans rfl; have hf10 := blk_frozen B3.out 10; have hc11 : w4.cell? ⟨g3, 11, none⟩ = some (.int .i64 0) := (blk_cell B3.out 11).trans rfl; have hf11 := blk_frozen B3.out 11; have hc12 : w4.cell? ⟨g3, 12, none⟩ = some (.int .i64 0) := (blk_cell B3.out 12).trans rfl; have hf12 := blk_frozen B3.out 12; have hc13 : w4.cell? ⟨g3, 13, none⟩ = some (.int .i64 0) := (blk_cell B3.out 13).trans rfl; have hf13 := blk_frozen B3.out 13; have hc14 : w4.cell? ⟨g3, 14, none⟩ = some (.int .i64 0) := (blk_cell B3.out 14).trans rfl; have hf14 := blk_frozen B3.out 14; have hc15 : w4.cell? ⟨g3, 15, none⟩ = some (.int .i64 0) := (blk_cell B3.out 15).trans rfl; have hf15 := blk_frozen B3.out 15)
        )
    go_ret
    exact ⟨rfl, set16_below H4.out G3.out _ _ _ _ _ _ _ _ _ _ _ _ _ _ _ _⟩
  | true =>
    obtain ⟨y, hy⟩ : ∃ y, roomS [x0, x1, x2, x3, x4, x5, x6, x7, x8, x9, x10, x11, x12, x13, x14, x15] = y := ⟨_, rfl⟩
    rw [hy]
    simp only [Bool.true_eq_false, if_false]
    by_cases h1 : y < 0
    · rw [if_pos h1]
      have q1 := eq_true h1
      go_enter Try.func30, Try.ntmps30
      go_wp2_with (first
          | (go_at_call 37; refine (K2.out).mono ?_; rintro e_ w3 ⟨rfl, hb⟩; have HB := Aside0.mk hb; clear hb; simp only [agg16, List.map_cons, List.map_nil])
          | ((with_reducible refine gate_dst (N := 3) rfl ?_); refine box_event ?hg (N := 3) ?hd (cs := #[.int .i64 0, .int .i64 0, .int .i64 0, .int .i64 0, .int .i64 0, .int .i64 0, .int .i64 0, .int .i64 0, .int .i64 0, .int .i64 0, .int .i64 0, .int .i64 0, .int .i64 0, .int .i64 0, .int .i64 0, .int .i64 0]) (t := 62) ?hr ?_; (case hd => rfl); (case hg => rfl); (case hr => first | (go_simp; done) | (go_simp; rfl)); intro g3 hg w4 hbox hb; have B3 := Aside0.mk hbox; have G3 := Aside0.mk (show w.heap.size ≤ g3 by rw [hg]; exact HB.out.size); have H4 := Aside0.mk (below_then HB.out HB.out.size hb); clear hg hbox hb; have hc0 : w4.cell? ⟨g3, 0, none⟩ = some (.int .i64 0) := (blk_cell B3.out 0).trans rfl; have hf0 := blk_frozen B3.out 0; have hc1 : w4.cell? ⟨g3, 1, none⟩ = some (.int .i64 0) := (blk_cell B3.out 1).trans rfl; have hf1 := blk_frozen B3.out 1; have hc2 : w4.cell? ⟨g3, 2, none⟩ = some (.int .i64 0) := (blk_cell B3.out 2).trans rfl; have hf2 := blk_frozen B3.out 2; have hc3 : w4.cell? ⟨g3, 3, none⟩ = some (.int .i64 0) := (blk_cell B3.out 3).trans rfl; have hf3 := blk_frozen B3.out 3; have hc4 : w4.cell? ⟨g3, 4, none⟩ = some (.int .i64 0) := (blk_cell B3.out 4).trans rfl; have hf4 := blk_frozen B3.out 4; have hc5 : w4.cell? ⟨g3, 5, none⟩ = some (.int .i64 0) := (blk_cell B3.out 5).trans rfl; have hf5 := blk_frozen B3.out 5; have hc6 : w4.cell? ⟨g3, 6, none⟩ = some (.int .i64 0) := (blk_cell B3.out 6).trans rfl; have hf6 := blk_frozen B3.out 6; have hc7 : w4.cell? ⟨g3, 7, none⟩ = some (.int .i64 0) := (blk_cell B3.out 7).trans rfl; have hf7 := blk_frozen B3.out 7; have hc8 : w4.cell? ⟨g3, 8, none⟩ = some (.int .i64 0) := (blk_cell B3.out 8).trans rfl; have hf8 := blk_frozen B3.out 8; have hc9 : w4.cell? ⟨g3, 9, none⟩ = some (.int .i64 0) := (blk_cell B3.out 9).trans rfl; have hf9 := blk_frozen B3.out 9; have hc10 : w4.cell? ⟨g3, 10, none⟩ = some (.int .i64 0) := (blk_cell B3.out 10).trans rfl; have hf10 := blk_frozen B3.out 10; have hc11 : w4.cell? ⟨g3, 11, none⟩ = some (.int .i64 0) := (blk_cell B3.out 11).trans rfl; have hf11 := blk_frozen B3.out 11; have hc12 : w4.cell? ⟨g3, 12, none⟩ = some (.int .i64 0) := (blk_cell B3.out 12).trans rfl; have hf12 := blk_frozen B3.out 12; have hc13 : w4.cell? ⟨g3, 13, none⟩ = some (.int .i64 0) := (blk_cell B3.out 13).trans rfl; have hf13 := blk_frozen B3.out 13; have hc14 : w4.cell? ⟨g3, 14, none⟩ = some (.int .i64 0) := (blk_cell B3.out 14).trans rfl; have hf14 := blk_frozen B3.out 14; have hc15 : w4.cell? ⟨g3, 15, none⟩ = some (.int .i64 0) := (blk_cell B3.out 15).trans rfl; have hf15 := blk_frozen B3.out 15)
          | (go_at_call 38; refine (room.calls g3 [x0, x1, x2, x3, x4, x5, x6, x7, x8, x9, x10, x11, x12, x13, x14, x15] rfl _ (set16 B3.out _ _ _ _ _ _ _ _ _ _ _ _ _ _ _ _)).mono ?_; rintro e_ w5 ⟨rfl, rfl⟩; rw [hy])
          )
      go_ret
      exact ⟨rfl, set16_below H4.out G3.out _ _ _ _ _ _ _ _ _ _ _ _ _ _ _ _⟩
    · rw [if_neg h1]
      by_cases h2 : y > 0
      · rw [if_pos h2]
        have q1 := eq_false h1
        have q2 := eq_true h2
        have q3 := eq_true (show 0 < y from h2)
        go_enter Try.func30, Try.ntmps30
        go_wp2_with (first
            | (go_at_call 37; refine (K2.out).mono ?_; rintro e_ w3 ⟨rfl, hb⟩; have HB := Aside0.mk hb; clear hb; simp only [agg16, List.map_cons, List.map_nil])
            | ((with_reducible refine gate_dst (N := 3) rfl ?_); refine box_event ?hg (N := 3) ?hd (cs := #[.int .i64 0, .int .i64 0, .int .i64 0, .int .i64 0, .int .i64 0, .int .i64 0, .int .i64 0, .int .i64 0, .int .i64 0, .int .i64 0, .int .i64 0, .int .i64 0, .int .i64 0, .int .i64 0, .int .i64 0, .int .i64 0]) (t := 62) ?hr ?_; (case hd => rfl); (case hg => rfl); (case hr => first | (go_simp; done) | (go_simp; rfl)); intro g3 hg w4 hbox hb; have B3 := Aside0.mk hbox; have G3 := Aside0.mk (show w.heap.size ≤ g3 by rw [hg]; exact HB.out.size); have H4 := Aside0.mk (below_then HB.out HB.out.size hb); clear hg hbox hb; have hc0 : w4.cell? ⟨g3, 0, none⟩ = some (.int .i64 0) := (blk_cell B3.out 0).trans rfl; have hf0 := blk_frozen B3.out 0; have hc1 : w4.cell? ⟨g3, 1, none⟩ = some (.int .i64 0) := (blk_cell B3.out 1).trans rfl; have hf1 := blk_frozen B3.out 1; have hc2 : w4.cell? ⟨g3, 2, none⟩ = some (.int .i64 0) := (blk_cell B3.out 2).trans rfl; have hf2 := blk_frozen B3.out 2; have hc3 : w4.cell? ⟨g3, 3, none⟩ = some (.int .i64 0) := (blk_cell B3.out 3).trans rfl; have hf3 := blk_frozen B3.out 3; have hc4 : w4.cell? ⟨g3, 4, none⟩ = some (.int .i64 0) := (blk_cell B3.out 4).trans rfl; have hf4 := blk_frozen B3.out 4; have hc5 : w4.cell? ⟨g3, 5, none⟩ = some (.int .i64 0) := (blk_cell B3.out 5).trans rfl; have hf5 := blk_frozen B3.out 5; have hc6 : w4.cell? ⟨g3, 6, none⟩ = some (.int .i64 0) := (blk_cell B3.out 6).trans rfl; have hf6 := blk_frozen B3.out 6; have hc7 : w4.cell? ⟨g3, 7, none⟩ = some (.int .i64 0) := (blk_cell B3.out 7).trans rfl; have hf7 := blk_frozen B3.out 7; have hc8 : w4.cell? ⟨g3, 8, none⟩ = some (.int .i64 0) := (blk_cell B3.out 8).trans rfl; have hf8 := blk_frozen B3.out 8; have hc9 : w4.cell? ⟨g3, 9, none⟩ = some (.int .i64 0) := (blk_cell B3.out 9).trans rfl; have hf9 := blk_frozen B3.out 9; have hc10 : w4.cell? ⟨g3, 10, none⟩ = some (.int .i64 0) := (blk_cell B3.out 10).trans rfl; have hf10 := blk_frozen B3.out 10; have hc11 : w4.cell? ⟨g3, 11, none⟩ = some (.int .i64 0) := (blk_cell B3.out 11).trans rfl; have hf11 := blk_frozen B3.out 11; have hc12 : w4.cell? ⟨g3, 12, none⟩ = some (.int .i64 0) := (blk_cell B3.out 12).trans rfl; have hf12 := blk_frozen B3.out 12; have hc13 : w4.cell? ⟨g3, 13, none⟩ = some (.int .i64 0) := (blk_cell B3.out 13).trans rfl; have hf13 := blk_frozen B3.out 13; have hc14 : w4.cell? ⟨g3, 14, none⟩ = some (.int .i64 0) := (blk_cell B3.out 14).trans rfl; have hf14 := blk_frozen B3.out 14; have hc15 : w4.cell? ⟨g3, 15, none⟩ = some (.int .i64 0) := (blk_cell B3.out 15).trans rfl; have hf15 := blk_frozen B3.out 15)
            | (go_at_call 38; refine (room.calls g3 [x0, x1, x2, x3, x4, x5, x6, x7, x8, x9, x10, x11, x12, x13, x14, x15] rfl _ (set16 B3.out _ _ _ _ _ _ _ _ _ _ _ _ _ _ _ _)).mono ?_; rintro e_ w5 ⟨rfl, rfl⟩; rw [hy])
            )
        go_ret
        exact ⟨rfl, set16_below H4.out G3.out _ _ _ _ _ _ _ _ _ _ _ _ _ _ _ _⟩
      · rw [if_neg h2]
        have q1 := eq_false h1
        have q2 := eq_false h2
        have q3 := eq_false (show ¬ 0 < y from h2)
        go_enter Try.func30, Try.ntmps30
        go_wp2_with (first
            | (go_at_call 37; refine (K2.out).mono ?_; rintro e_ w3 ⟨rfl, hb⟩; have HB := Aside0.mk hb; clear hb; simp only [agg16, List.map_cons, List.map_nil])
            | ((with_reducible refine gate_dst (N := 3) rfl ?_); refine box_event ?hg (N := 3) ?hd (cs := #[.int .i64 0, .int .i64 0, .int .i64 0, .int .i64 0, .int .i64 0, .int .i64 0, .int .i64 0, .int .i64 0, .int .i64 0, .int .i64 0, .int .i64 0, .int .i64 0, .int .i64 0, .int .i64 0, .int .i64 0, .int .i64 0]) (t := 62) ?hr ?_; (case hd => rfl); (case hg => rfl); (case hr => first | (go_simp; done) | (go_simp; rfl)); intro g3 hg w4 hbox hb; have B3 := Aside0.mk hbox; have G3 := Aside0.mk (show w.heap.size ≤ g3 by rw [hg]; exact HB.out.size); have H4 := Aside0.mk (below_then HB.out HB.out.size hb); clear hg hbox hb; have hc0 : w4.cell? ⟨g3, 0, none⟩ = some (.int .i64 0) := (blk_cell B3.out 0).trans rfl; have hf0 := blk_frozen B3.out 0; have hc1 : w4.cell? ⟨g3, 1, none⟩ = some (.int .i64 0) := (blk_cell B3.out 1).trans rfl; have hf1 := blk_frozen B3.out 1; have hc2 : w4.cell? ⟨g3, 2, none⟩ = some (.int .i64 0) := (blk_cell B3.out 2).trans rfl; have hf2 := blk_frozen B3.out 2; have hc3 : w4.cell? ⟨g3, 3, none⟩ = some (.int .i64 0) := (blk_cell B3.out 3).trans rfl; have hf3 := blk_frozen B3.out 3; have hc4 : w4.cell? ⟨g3, 4, none⟩ = some (.int .i64 0) := (blk_cell B3.out 4).trans rfl; have hf4 := blk_frozen B3.out 4; have hc5 : w4.cell? ⟨g3, 5, none⟩ = some (.int .i64 0) := (blk_cell B3.out 5).trans rfl; have hf5 := blk_frozen B3.out 5; have hc6 : w4.cell? ⟨g3, 6, none⟩ = some (.int .i64 0) := (blk_cell B3.out 6).trans rfl; have hf6 := blk_frozen B3.out 6; have hc7 : w4.cell? ⟨g3, 7, none⟩ = some (.int .i64 0) := (blk_cell B3.out 7).trans rfl; have hf7 := blk_frozen B3.out 7; have hc8 : w4.cell? ⟨g3, 8, none⟩ = some (.int .i64 0) := (blk_cell B3.out 8).trans rfl; have hf8 := blk_frozen B3.out 8; have hc9 : w4.cell? ⟨g3, 9, none⟩ = some (.int .i64 0) := (blk_cell B3.out 9).trans rfl; have hf9 := blk_frozen B3.out 9; have hc10 : w4.cell? ⟨g3, 10, none⟩ = some (.int .i64 0) := (blk_cell B3.out 10).trans rfl; have hf10 := blk_frozen B3.out 10; have hc11 : w4.cell? ⟨g3, 11, none⟩ = some (.int .i64 0) := (blk_cell B3.out 11).trans rfl; have hf11 := blk_frozen B3.out 11; have hc12 : w4.cell? ⟨g3, 12, none⟩ = some (.int .i64 0) := (blk_cell B3.out 12).trans rfl; have hf12 := blk_frozen B3.out 12; have hc13 : w4.cell? ⟨g3, 13, none⟩ = some (.int .i64 0) := (blk_cell B3.out 13).trans rfl; have hf13 := blk_frozen B3.out 13; have hc14 : w4.cell? ⟨g3, 14, none⟩ = some (.int .i64 0) := (blk_cell B3.out 14).trans rfl; have hf14 := blk_frozen B3.out 14; have hc15 : w4.cell? ⟨g3, 15, none⟩ = some (.int .i64 0) := (blk_cell B3.out 15).trans rfl; have hf15 := blk_frozen B3.out 15)
            | (go_at_call 38; refine (room.calls g3 [x0, x1, x2, x3, x4, x5, x6, x7, x8, x9, x10, x11, x12, x13, x14, x15] rfl _ (set16 B3.out _ _ _ _ _ _ _ _ _ _ _ _ _ _ _ _)).mono ?_; rintro e_ w5 ⟨rfl, rfl⟩; rw [hy])
            )
        go_ret
        exact ⟨rfl, set16_below H4.out G3.out _ _ _ _ _ _ _ _ _ _ _ _ _ _ _ _⟩
end Go.Proofs.Ytdgpcjhincgijaa.Pr

-- YtdgpcjhincgijaaLm8
namespace Go.Proofs.Ytdgpcjhincgijaa.Pr
open Go.RowKit Go.Shelf Go.Proofs.YtdgpcjhincgijaaW.PrintWords Go.Proofs.YtdgpcjhincgijaaW.PrintLast Go.Proofs.YtdgpcjhincgijaaW.PrintMore
set_option linter.unusedVariables false
set_option linter.unusedSimpArgs false
section
attribute [local go_sem] Oper.semAt_some
/-! ### What lengths cost -/
def dotS (f l : List Int) : Nat → Int
  | 0 => 0
  | k + 1 => dotS f l k + f.getD k 0 * l.getD k 0
def costS (f l : List Int) : Int × Int := if oftenS f = true ∧ f.length = l.length ∧ checkS l ≠ 2 then (dotS f l f.length, 0) else (0, 2)
theorem checkS_lens {zs : List Int} (h : checkS zs ≠ 2) : 1 ≤ zs.length ∧ zs.length ≤ 288 ∧ ∀ k : Nat, k < zs.length → 0 ≤ zs.getD k 0 ∧ zs.getD k 0 ≤ 15 := by
  have h0 : (countedS zs).2 = true := by
    cases e : (countedS zs).2 with
    | true => rfl
    | false => exact absurd (by unfold checkS; rw [if_pos e]) h
  unfold countedS at h0
  by_cases h1 : zs.length < 1 ∨ 288 < zs.length
  · rw [if_pos h1] at h0
    cases h0
  · rw [if_neg h1] at h0
    by_cases h2 : (usedL zs zs.length).all (fun x => decide (Lok x.2)) = true
    · refine ⟨by omega, by omega, fun k hk => ?_⟩
      by_cases hz : zs.getD k 0 = 0
      · omega
      · have hm : (k, zs.getD k 0) ∈ usedL zs zs.length := by
          unfold usedL
          rw [List.mem_filter]
          exact ⟨List.mem_map.2 ⟨k, List.mem_range.2 hk, by rw [List.getD_eq_getElem?_getD]⟩, by simpa using hz⟩
        have := List.all_eq_true.1 h2 _ hm
        exact of_decide_eq_true this
    · rw [if_neg h2] at h0
      cases h0
theorem dotS_bound {f l : List Int} (hf : ∀ k : Nat, k < f.length → 0 ≤ f.getD k 0 ∧ f.getD k 0 ≤ 4294967295) (hl : ∀ k : Nat, k < f.length → 0 ≤ l.getD k 0 ∧ l.getD k 0 ≤ 15) : ∀ k, k ≤ f.length → 0 ≤ dotS f l k ∧ dotS f l k ≤ (k : Int) * 64424509425
  | 0, _ => ⟨by unfold dotS; omega, by unfold dotS; omega⟩
  | k + 1, hk => by
    have h := dotS_bound hf hl k (by omega)
    have h1 := hf k (by omega)
    have h2 := hl k (by omega)
    have h3 : 0 ≤ f.getD k 0 * l.getD k 0 := Int.mul_nonneg h1.1 h2.1
    have h4 : f.getD k 0 * l.getD k 0 ≤ 4294967295 * 15 := Int.mul_le_mul h1.2 h2.2 h2.1 (by omega)
    unfold dotS
    generalize f.getD k 0 * l.getD k 0 = z at *
    constructor <;> omega
set_option maxHeartbeats 16000000 in
set_option maxRecDepth 1000000 in
theorem cost_calls (A1 A2 : Option Addr) (c1 c2 : Nat) (f l : List Int) (w : World) (hf : (Kd.int .i64).C w A1 f.length f) (hl : (Kd.int .i64).C w A2 l.length l) :
    Calls Try.prog 16 #[.slice A1 f.length c1, .slice A2 l.length c2] w fun e w' => e = .returned (.tuple #[.int .i64 (costS f l).1, .int .i64 (costS f l).2]) ∧ Below w.heap.size w w' := by
  have HF := Aside0.mk hf
  have HL := Aside0.mk hl
  clear hf hl
  by_cases hof : oftenS f = true
  · by_cases hlen : f.length = l.length
    · by_cases hck : checkS l = 2
      · have e0 : costS f l = (0, 2) := if_neg (fun h => h.2.2 hck)
        rw [e0]
        have HOF := Aside0.mk hof
        have HCK := Aside0.mk hck
        have q2 := eq_true (show (f.length : Int) = (l.length : Int) by omega)
        have q2b : ((f.length : Int) != (l.length : Int)) = false := by rw [bne_eq_false_iff_eq]; omega
        have HLN := Aside0.mk hlen
        clear hlen hof hck e0
        go_enter Try.func16, Try.ntmps16
        go_wp2_with (first
          | (go_at_call 19; have hcc := often_calls A1 c1 f _ HF.out; rw [HOF.out] at hcc; refine hcc.mono ?_; clear hcc; rintro e_ w3 ⟨rfl, hw3⟩; have hw4 := hw3.symm; subst hw4; clear hw3)
          | (go_at_call 30; have hcc := huff_Check_in A2 c2 l _ HL.out; rw [HCK.out] at hcc; refine hcc.mono ?_; clear hcc; rintro e_ w3 ⟨rfl, hb⟩; have HB := Aside0.mk hb; clear hb)
          )
        go_ret2
        exact ⟨rfl, HB.out⟩
      · have e0 : costS f l = (dotS f l f.length, 0) := if_pos ⟨hof, hlen, hck⟩
        rw [e0]
        obtain ⟨hl1, hl2, hl3⟩ := checkS_lens hck
        have HLB := Aside0.mk hl3
        have HLN := Aside0.mk hlen
        have HFB := Aside0.mk (often_at hof)
        have HL8 := Aside0.mk hl2
        have HOF := Aside0.mk hof
        obtain ⟨ck, hc⟩ : ∃ ck, checkS l = ck := ⟨_, rfl⟩
        rw [hc] at hck
        have HCK := Aside0.mk hc
        have q0 := eq_false hck
        have q1 : (ck == 2) = false := beq_eq_false_iff_ne.mpr hck
        have q2 := eq_true (show (f.length : Int) = (l.length : Int) by omega)
        have q2b : ((f.length : Int) != (l.length : Int)) = false := by rw [bne_eq_false_iff_eq]; omega
        clear hc hl1 hl2 hl3 hlen hck hof e0
        go_enter Try.func16, Try.ntmps16
        go_wp2_with (first
          | (go_at_call 19; have hcc := often_calls A1 c1 f _ HF.out; rw [HOF.out] at hcc; refine hcc.mono ?_; clear hcc; rintro e_ w3 ⟨rfl, hw3⟩; have hw4 := hw3.symm; subst hw4; clear hw3)
          | (go_at_call 30; have hcc := huff_Check_in A2 c2 l _ HL.out; rw [HCK.out] at hcc; refine hcc.mono ?_; clear hcc; rintro e_ w3 ⟨rfl, hb⟩; have HB := Aside0.mk hb; clear hb)
          )
        go_loopw [6, 26] (fun x6 x26 w' => ∃ k : Nat, k ≤ f.length ∧ x26 = .int .i64 (k : Int) ∧ x6 = .int .i64 (dotS f l k) ∧ Aside0 (Below w.heap.size w w')) (fun _ x26 _ => f.length + 1 - (intOf x26).toNat)
        case atStart => exact ⟨0, by omega, rfl, rfl, HB⟩
        case round =>
          clear HB
          obtain ⟨k, hk, rfl, rfl, HB⟩ := hrel
          by_cases hlt : k < f.length
          · obtain ⟨a1, ea1, hx1⟩ := Kd.at_int (Kd.C_below HF.out HB.out) (k : Int) (by omega) (by omega)
            obtain ⟨a2, ea2, hx2⟩ := Kd.at_int (Kd.C_below HL.out HB.out) (k : Int) (by omega) (by have := HLN.out; omega)
            subst ea1
            subst ea2
            rw [Int.toNat_natCast] at hx1 hx2
            rw [rd_getD] at hx1 hx2
            have hf1 := HFB.out k hlt
            have hl1 := HLB.out k (by have := HLN.out; omega)
            have hd := dotS_bound HFB.out (fun k hk => HLB.out k (by have := HLN.out; omega)) (k + 1) (by omega)
            have hd1 : dotS f l (k + 1) = dotS f l k + f.getD k 0 * l.getD k 0 := rfl
            obtain ⟨x, hx⟩ : ∃ x, f.getD k 0 = x := ⟨_, rfl⟩
            obtain ⟨y, hy⟩ : ∃ y, l.getD k 0 = y := ⟨_, rfl⟩
            obtain ⟨d0, hd0⟩ : ∃ d0, dotS f l k = d0 := ⟨_, rfl⟩
            obtain ⟨d1, hd2⟩ : ∃ d1, dotS f l (k + 1) = d1 := ⟨_, rfl⟩
            have HD2 := Aside0.mk hd2
            rw [hd2, hx, hy, hd0] at hd1
            rw [hd2] at hd
            rw [hx] at hx1 hf1
            rw [hy] at hx2 hl1
            have h3 : 0 ≤ x * y := Int.mul_nonneg hf1.1 hl1.1
            have h4 : x * y ≤ 4294967295 * 15 := Int.mul_le_mul hf1.2 hl1.2 hl1.1 (by omega)
            have hkk := HL8.out
            have hkl := HLN.out
            have hw1 : wrap64 (x * y) = x * y := wrap64_id (by omega) (by omega)
            have hw2 : wrap64 (d0 + x * y) = d1 := by rw [← hd1]; exact wrap64_id (by omega) (by omega)
            have q3 := eq_true (show (k : Int) < (f.length : Int) by omega)
            have q4 := eq_true (show (k : Int) < (l.length : Int) by omega)
            have q5 := eq_true (show (0 : Int) ≤ (k : Int) by omega)
            have q6 := eq_true hlt
            have q7 := eq_true (show k < l.length by omega)
            have HK := Aside0.mk (show k < f.length ∧ f.length ≤ 288 by omega)
            clear hk hlt hf1 hl1 hd hd1 hd2 hx hy h3 h4 hkk hkl
            rw [hd0]
            clear hd0
            go_wp2
            go_roundw
            case rel => exact ⟨k + 1, by have := HK.out; omega, val_next _ (by have := HK.out; omega), by rw [HD2.out, hw2], HB⟩
            case measure => rw [nat_next _ (by have := HK.out; omega)]; simp only [intOf, Int.toNat_natCast]; have := HK.out; omega
          · obtain rfl : k = f.length := by omega
            have q3 := eq_false (show ¬ (f.length : Int) < (f.length : Int) by omega)
            go_wp2
            go_ret2
            exact ⟨rfl, HB.out⟩
    · have e0 : costS f l = (0, 2) := if_neg (fun h => hlen h.2.1)
      rw [e0]
      have HOF := Aside0.mk hof
      have q2 := eq_false (show ¬ (f.length : Int) = (l.length : Int) by omega)
      have q3 : ((f.length : Int) == (l.length : Int)) = false := beq_eq_false_iff_ne.mpr (by omega)
      have q3b : ((f.length : Int) != (l.length : Int)) = true := by rw [bne_iff_ne]; omega
      have q4 := eq_false hlen
      clear hlen hof e0
      go_enter Try.func16, Try.ntmps16
      go_wp2_with (go_at_call 19; have hcc := often_calls A1 c1 f _ HF.out; rw [HOF.out] at hcc; refine hcc.mono ?_; clear hcc; rintro e_ w3 ⟨rfl, hw3⟩; have hw4 := hw3.symm; subst hw4; clear hw3)
      go_ret2
      exact ⟨rfl, Below.refl _ _⟩
  · have e0 : costS f l = (0, 2) := if_neg (fun h => hof h.1)
    rw [e0]
    have HOF := Aside0.mk (Bool.eq_false_iff.mpr hof)
    clear hof e0
    go_enter Try.func16, Try.ntmps16
    go_wp2_with (go_at_call 19; have hcc := often_calls A1 c1 f _ HF.out; rw [HOF.out] at hcc; refine hcc.mono ?_; clear hcc; rintro e_ w3 ⟨rfl, hw3⟩; have hw4 := hw3.symm; subst hw4; clear hw3)
    go_ret2
    exact ⟨rfl, Below.refl _ _⟩
end
end Go.Proofs.Ytdgpcjhincgijaa.Pr

-- YtdgpcjhincgijaaLm9
namespace Go.Proofs.Ytdgpcjhincgijaa.Pr
open Go.RowKit Go.Shelf Go.Proofs.YtdgpcjhincgijaaW.PrintWords Go.Proofs.YtdgpcjhincgijaaW.PrintLast Go.Proofs.YtdgpcjhincgijaaW.PrintMore
set_option linter.unusedVariables false
set_option linter.unusedSimpArgs false
/-! ### There is one such sort -/
section
variable {α : Type} {κ : α → Int}
theorem srt_unique : ∀ {Z Z' : List α}, Srt κ Z → Srt κ Z' → Stb κ Z Z' → Z = Z'
  | [], Z', _, _, h => (List.eq_nil_of_length_eq_zero (h.len.trans rfl)).symm
  | z :: Z, [], _, _, h => absurd h.len (by simp)
  | z :: Z, z' :: Z', s, s', h => by
    obtain ⟨c, sZ⟩ := List.pairwise_cons.1 s
    obtain ⟨c', sZ'⟩ := List.pairwise_cons.1 s'
    have e : κ z = κ z' := by
      have h1 : κ z ≤ κ z' := by
        rcases List.mem_cons.1 ((h.mem z').1 (List.mem_cons_self ..)) with e | e
        · rw [e]; exact Int.le_refl _
        · exact c _ e
      have h2 : κ z' ≤ κ z := by
        rcases List.mem_cons.1 ((h.mem z).2 (List.mem_cons_self ..)) with e | e
        · rw [e]; exact Int.le_refl _
        · exact c' _ e
      omega
    have hk := h (κ z)
    rw [List.filter_cons, List.filter_cons, if_pos (beq_iff_eq.mpr e.symm), if_pos (beq_iff_eq.mpr rfl)] at hk
    injection hk with ez hk
    subst ez
    congr 1
    refine srt_unique sZ sZ' (fun k => ?_)
    have hk2 := h k
    rw [List.filter_cons, List.filter_cons] at hk2
    by_cases hh : κ z' = k
    · rw [if_pos (beq_iff_eq.mpr hh), if_pos (beq_iff_eq.mpr hh)] at hk2
      injection hk2
    · rw [if_neg (by rw [beq_iff_eq]; exact hh), if_neg (by rw [beq_iff_eq]; exact hh)] at hk2
      exact hk2
end
/-! ### Lengths as a function -/
abbrev PK := Int × List Int
def insF (x : PK) : List PK → List PK
  | [] => [x]
  | y :: t => if x.1 ≤ y.1 then x :: y :: t else y :: insF x t
def isortF (L : List PK) : List PK := L.foldr insF []
theorem insF_stb (x : PK) : ∀ Z, Stb wP (x :: Z) (insF x Z)
  | [] => Stb.refl _
  | y :: t => by
    unfold insF
    by_cases h : x.1 ≤ y.1
    · rw [if_pos h]
      exact Stb.refl _
    · rw [if_neg h]
      intro k
      have ih := insF_stb x t k
      rw [List.filter_cons, ih, List.filter_cons, List.filter_cons, List.filter_cons]
      by_cases h1 : (wP y == k) = true
      · have h2 : (wP x == k) = false := by
          rw [beq_iff_eq] at h1
          rw [beq_eq_false_iff_ne]
          unfold wP at h1 ⊢
          omega
        rw [if_pos h1, h2]
        simp [h1]
      · rw [if_neg h1]
        simp [h1]
theorem insF_srt (x : PK) : ∀ Z, Srt wP Z → Srt wP (insF x Z)
  | [], _ => List.pairwise_singleton _ _
  | y :: t, h => by
    obtain ⟨h1, h2⟩ := List.pairwise_cons.1 h
    unfold insF
    by_cases hx : x.1 ≤ y.1
    · rw [if_pos hx]
      refine List.pairwise_cons.2 ⟨fun z hz => ?_, h⟩
      rcases List.mem_cons.1 hz with rfl | hz
      · exact hx
      · exact Int.le_trans (show wP x ≤ wP y from hx) (h1 z hz)
    · rw [if_neg hx]
      refine List.pairwise_cons.2 ⟨fun z hz => ?_, insF_srt x t h2⟩
      rcases List.mem_cons.1 (((insF_stb x t).mem z).1 hz) with rfl | hz
      · unfold wP
        omega
      · exact h1 z hz
theorem isortF_spec : ∀ L : List PK, Srt wP (isortF L) ∧ Stb wP L (isortF L)
  | [] => ⟨List.Pairwise.nil, Stb.refl _⟩
  | x :: L => by
    obtain ⟨h1, h2⟩ := isortF_spec L
    refine ⟨insF_srt x _ h1, fun k => ?_⟩
    have h3 := insF_stb x (isortF L) k
    show (insF x (isortF L)).filter _ = _
    rw [h3, List.filter_cons, List.filter_cons, h2 k]
theorem sorted_isF {L Z : List PK} (s : Srt wP Z) (b : Stb wP L Z) : Z = isortF L :=
  srt_unique s (isortF_spec L).1 (fun k => ((isortF_spec L).2 k).trans (b k).symm)
def haveF (S : List PK) : Nat → List PK
  | 0 => []
  | j + 1 => isortF (S ++ pairP (haveF S j))
theorem have_isF {S : List PK} {j : Nat} {H : List PK} (h : HaveRel S j H) : H = haveF S j := by
  induction h with
  | zero => rfl
  | @succ j Y Z h hs hb ih =>
    subst ih
    exact sorted_isF hs hb
def lenF (l : List Int) (most : Int) : Int × List Int :=
  if ¬ (oftenS l = true ∧ 1 ≤ most ∧ most ≤ 15) then (2, [])
  else if 2 ^ most.toNat < (singL l l.length).length then (11, [])
  else match singL l l.length with
    | [] => (0, zerosL l)
    | [p] => (0, bumps (zerosL l) p.2)
    | s => (0, ((haveF (isortF s) most.toNat).take (2 * s.length - 2)).foldl (fun out p => bumps out p.2) (zerosL l))
theorem lenIs_isF {l : List Int} {most er : Int} {r : List Int} (h : LenIs l most er r) : (er, r) = lenF l most := by
  unfold lenF
  rcases h with ⟨h, rfl, rfl⟩ | ⟨hof, m, rfl, hm1, hm2, h⟩
  · rw [if_pos h]
  · rw [if_neg (by rw [Decidable.not_not]; exact ⟨hof, by omega, by omega⟩), Int.toNat_natCast]
    rcases h with ⟨h, rfl, rfl⟩ | ⟨hle, rfl, h⟩
    · rw [if_pos h]
    · rw [if_neg (by omega)]
      rcases h with ⟨e, rfl⟩ | ⟨x, j, hj, e, rfl⟩ | ⟨h2, S, hs, s1, s2, hh, hl, rfl⟩
      · rw [e]
      · rw [e]
        show _ = ((0 : Int), bump (zerosL l) (j : Int))
        unfold bump zerosL
        rw [Int.toNat_natCast, List.getD_eq_getElem?_getD, List.getElem?_replicate, if_pos hj]
        rfl
      · generalize singL l l.length = s at *
        obtain rfl := sorted_isF s1 s2
        obtain rfl := have_isF hh
        match s, h2 with
        | a :: b :: t, _ => rfl
end Go.Proofs.Ytdgpcjhincgijaa.Pr

-- YtdgpcjhincgijaaPg0
namespace Go.Proofs.Ytdgpcjhincgijaa.Pg
open Go.RowKit Go.Proofs.YtdgpcjhincgijaaW.PrintWords Go.Proofs.YtdgpcjhincgijaaW.PrintLast Go.Proofs.YtdgpcjhincgijaaW.PrintMore
attribute [local go_sem] max2_int min2_int max_two min_two max_three min_three max_four min_four   -- for this text's walks alone
set_option linter.unusedVariables false
set_option linter.unusedSimpArgs false

theorem u8_w (n : Int) : IntKind.u8.wrap n = n % 256 := IntKind.wrap_u8 n



def errW : Option Int → Value
  | none => .nilIface
  | some c => .iface 0 (.int .i64 c)
theorem errW_none : errW none = .nilIface := rfl
theorem errW_some (c : Int) : errW (some c) = .iface 0 (.int .i64 c) := rfl

theorem info3 : (Try.prog.info? 3).map (fun i => (i.zero, i.size, i.bytes)) = some (some (.int .i64 0), 1, 8) := by kernel_rfl
-- the values' own types
end Go.Proofs.Ytdgpcjhincgijaa.Pg

-- YtdgpcjhincgijaaPg1
namespace Go.Proofs.Ytdgpcjhincgijaa.Pg
open Go.RowKit Go.Proofs.YtdgpcjhincgijaaW.PrintWords Go.Proofs.YtdgpcjhincgijaaW.PrintLast Go.Proofs.YtdgpcjhincgijaaW.PrintMore
attribute [local go_sem] max2_int min2_int max_two min_two max_three min_three max_four min_four   -- for this text's walks alone
set_option linter.unusedVariables false
set_option linter.unusedSimpArgs false

-- NOT PRINTED: function 39 (slices_IndexFunc_int_int)

-- NOT PRINTED: function 31 (slices_ContainsFunc_int_int)

-- NOT PRINTED: function 19 (limit_often)

-- NOT PRINTED: function 42 (limit_pack_int_42)

-- NOT PRINTED: function 46 (limit_pack_int_46)

-- NOT PRINTED: function 45 (limit_pack_int_45)

-- NOT PRINTED: function 43 (limit_pack_int_43)

-- NOT PRINTED: function 40 (limit_pack_int_40)

-- NOT PRINTED: function 33 (limit_pack_int_33)

-- NOT PRINTED: function 20 (limit_sorted_int)

-- NOT PRINTED: function 21 (limit_pack_int_21)

-- NOT PRINTED: function 22 (limit_pairs_int)

-- NOT PRINTED: function 36 (slices_Grow_int_int)

-- NOT PRINTED: function 23 (slices_Concat_int_int)

/-! ### limit_Lengths: function 9 (by hand) -/
def limit_Lengths.f (l0 : List Int) (a1 : Int) : Option (List Int × Int) := some ((Pr.lenF l0 a1).2, (Pr.lenF l0 a1).1)
theorem limit_Lengths.calls (A0 : Option Addr) (c0 : Nat) (l0 : List Int) (a1 : Int) (r1 : List Int) (r2 : Int) (w : World) (hr0 : Kd.C (Kd.int .i64) w A0 l0.length l0) (hc0 : l0.length ≤ c0) (h : limit_Lengths.f l0 a1 = some (r1, r2)) :
    Calls Try.prog 9 #[.slice A0 l0.length c0, .int .i64 a1] w fun e w' => ∃ v0_ : Value, e = .returned (.tuple #[v0_, .int .i64 r2]) ∧ Kd.R (Kd.int .i64) 3 w' w.heap.size (fun _ => True) v0_ r1 ∧ Below w.heap.size w w' := by
  injection h with h
  injection h with h1 h2
  refine (Pr.lengths_calls A0 c0 l0 a1 w hr0 hc0).mono ?_
  rintro e w' ⟨v, er, r, rfl, ho, hb, hl⟩
  have h3 := Pr.lenIs_isF hl
  rw [← h3] at h1 h2
  subst h1
  subst h2
  exact ⟨v, rfl, ho, hb⟩

end Go.Proofs.Ytdgpcjhincgijaa.Pg

-- YtdgpcjhincgijaaPg2
namespace Go.Proofs.Ytdgpcjhincgijaa.Pg
open Go.RowKit Go.Proofs.YtdgpcjhincgijaaW.PrintWords Go.Proofs.YtdgpcjhincgijaaW.PrintLast Go.Proofs.YtdgpcjhincgijaaW.PrintMore
attribute [local go_sem] max2_int min2_int max_two min_two max_three min_three max_four min_four   -- for this text's walks alone
set_option linter.unusedVariables false
set_option linter.unusedSimpArgs false

-- NOT PRINTED: function 39 (slices_IndexFunc_int_int)

-- NOT PRINTED: function 31 (slices_ContainsFunc_int_int)

-- NOT PRINTED: function 19 (limit_often)

-- NOT PRINTED: function 42 (limit_pack_int_42)

-- NOT PRINTED: function 46 (limit_pack_int_46)

-- NOT PRINTED: function 45 (limit_pack_int_45)

-- NOT PRINTED: function 43 (limit_pack_int_43)

-- NOT PRINTED: function 40 (limit_pack_int_40)

-- NOT PRINTED: function 33 (limit_pack_int_33)

-- NOT PRINTED: function 20 (limit_sorted_int)

-- NOT PRINTED: function 21 (limit_pack_int_21)

-- NOT PRINTED: function 22 (limit_pairs_int)

-- NOT PRINTED: function 36 (slices_Grow_int_int)

-- NOT PRINTED: function 23 (slices_Concat_int_int)

/-! ### valiseref05_Often: function 24 -/
mutual
def valiseref05_Often.j0 : Nat → List Int → Bool → Option (Bool)
  | 0, _, _ => none
  | k + 1, x0, x11 => if x11 = true then (some false) else (valiseref05_Often.l0 k x0 0)
def valiseref05_Often.l0 : Nat → List Int → Int → Option (Bool)
  | 0, _, _ => none
  | k + 1, x0, x3 => if x3 < (x0.length : Int) then (if 0 ≤ x3 then (if (rd x0 x3) < 0 then (some false) else (if (rd x0 x3) > 4294967295 then (some false) else (valiseref05_Often.l0 k x0 (wrap64 (x3 + 1))))) else (none)) else (some true)
end
def valiseref05_Often.f (k : Nat) (l0 : List Int) : Option (Bool) := if (l0.length : Int) = 0 then (valiseref05_Often.j0 k l0 true) else (valiseref05_Often.j0 k l0 (decide ((l0.length : Int) > 288)))
theorem valiseref05_Often.mono_l : ∀ k, (∀ y0 y1, LeO (valiseref05_Often.j0 k y0 y1) (valiseref05_Often.j0 (k + 1) y0 y1)) ∧ (∀ y0 y1, LeO (valiseref05_Often.l0 k y0 y1) (valiseref05_Often.l0 (k + 1) y0 y1))
  | 0 => ⟨fun _ _ r h => by simp [valiseref05_Often.j0] at h, fun _ _ r h => by simp [valiseref05_Often.l0] at h⟩
  | k + 1 => by
    obtain ⟨ih0, ih1⟩ := valiseref05_Often.mono_l k
    refine ⟨?_, ?_⟩
    · intro y0 y1
      unfold valiseref05_Often.j0
      repeat' first
      | (with_reducible exact ih0 _ _)
      | (with_reducible exact ih1 _ _)
      | (with_reducible exact LeO.refl _)
      | (with_reducible exact LeO.none _)
      | (with_reducible refine LeO.ite ?_ ?_)
      | (with_reducible refine LeO.bind ?_ (fun _ => ?_))
      | exact ih0 _ _
      | exact ih1 _ _
      | exact LeO.none _
      | refine LeO.ite ?_ ?_
      | refine LeO.bind ?_ (fun _ => ?_)
    · intro y0 y1
      unfold valiseref05_Often.l0
      repeat' first
      | (with_reducible exact ih0 _ _)
      | (with_reducible exact ih1 _ _)
      | (with_reducible exact LeO.refl _)
      | (with_reducible exact LeO.none _)
      | (with_reducible refine LeO.ite ?_ ?_)
      | (with_reducible refine LeO.bind ?_ (fun _ => ?_))
      | exact ih0 _ _
      | exact ih1 _ _
      | exact LeO.none _
      | refine LeO.ite ?_ ?_
      | refine LeO.bind ?_ (fun _ => ?_)
theorem valiseref05_Often.mono : ∀ a0 k, LeO (valiseref05_Often.f k a0) (valiseref05_Often.f (k + 1) a0) := by
  intro a0 k
  obtain ⟨ih0, ih1⟩ := valiseref05_Often.mono_l k
  unfold valiseref05_Often.f
  repeat' first
      | (with_reducible exact ih0 _ _)
      | (with_reducible exact ih1 _ _)
      | (with_reducible exact LeO.refl _)
      | (with_reducible exact LeO.none _)
      | (with_reducible refine LeO.ite ?_ ?_)
      | (with_reducible refine LeO.bind ?_ (fun _ => ?_))
      | exact ih0 _ _
      | exact ih1 _ _
      | exact LeO.none _
      | refine LeO.ite ?_ ?_
      | refine LeO.bind ?_ (fun _ => ?_)
set_option maxHeartbeats 8000000 in
set_option maxRecDepth 100000 in
theorem valiseref05_Often.calls (k : Nat) (A0 : Option Addr) (c0 : Nat) (l0 : List Int) (r : Bool) (w : World) (hr0 : Kd.C (Kd.int .i64) w A0 l0.length l0) (hc0 : l0.length ≤ c0) (h : valiseref05_Often.f k l0 = some r) :
    Calls Try.prog 24 #[.slice A0 l0.length c0] w fun e w' => e = .returned (.bool r) ∧ Drawn0 w w' := by
  have HR0 := Aside0.mk hr0
  have HC0 := Aside0.mk hc0
  clear hr0 hc0
  have H : (if (l0.length : Int) = 0 then (valiseref05_Often.j0 k l0 true) else (valiseref05_Often.j0 k l0 (decide ((l0.length : Int) > 288)))) = some r := h
  clear h
  have HC2 := Aside0.mk H
  clear H
  go_enter Try.func24, Try.ntmps24
  go_upto_region 1 with (fail)
  go_cut [11] (fun v11 wc => ∃ (kq : Nat) (x11_1 : Bool), v11 = .bool x11_1 ∧ Aside0 (valiseref05_Often.j0 kq l0 x11_1 = some r) ∧ Aside0 (kq ≤ k) ∧ Drawn0 w wc)
  case first =>
    have H := HC2.out
    clear HC2
    by_cases c3 : (l0.length : Int) = 0
    · rw [if_pos c3] at H
      have c3b0 : ((l0.length : Int) == 0) = true := beq_iff_eq.mpr c3
      have c3b1 : ((l0.length : Int) != 0) = false := bne_eq_false_iff_eq.mpr c3
      clear c3
      (first | rw [c3b0] | (simp only [i64_w, i32_w, u8_w]; rw [c3b0]) | skip)
      have H' := Aside0.mk H
      clear H
      go_wp2
      go_meet
      case rel => exact ⟨_, (true), (by first | rfl | (simp; done) | (simp [*]; done)), H', ⟨by first | omega | exact Nat.le_refl _⟩, by repeat (first | exact Drawn0.refl _ | apply Drawn0.step)⟩
    · rw [if_neg c3] at H
      have c3b0 : ((l0.length : Int) == 0) = false := beq_eq_false_iff_ne.mpr c3
      have c3b1 : ((l0.length : Int) != 0) = true := bne_iff_ne.mpr c3
      have c3b2 : ¬ (l0 = []) := fun h_ => c3 (by rw [h_]; rfl)
      (first | rw [c3b0] | (simp only [i64_w, i32_w, u8_w]; rw [c3b0]) | skip)
      have H' := Aside0.mk H
      clear H
      go_wp2
      go_meet
      case rel => exact ⟨_, (decide ((l0.length : Int) > 288)), (by first | rfl | (simp; done) | (simp [*]; done)), H', ⟨by first | omega | exact Nat.le_refl _⟩, by repeat (first | exact Drawn0.refl _ | apply Drawn0.step)⟩
  case rest =>
    clear HC2
    try clear c2
    try clear p2
    try clear c3
    try clear c3b0
    try clear c3b1
    try clear c3b2
    obtain ⟨kq, x11_1, rfl, HA, HJ1, ⟨mc1, rfl⟩⟩ := hcut
    cases kq with
    | zero => exact absurd HA.out (by simp [valiseref05_Often.j0])
    | succ kj1 =>
      have H := HA.out
      clear HA
      simp only [valiseref05_Often.j0] at H
      by_cases c4 : x11_1 = true
      · subst c4
        have H1 : (some false) = some r := by rw [if_pos rfl] at H; exact H
        clear H
        have H := H1
        clear H1
        obtain rfl := Option.some.inj H
        go_wp2
        go_ret
        exact ⟨by first | rfl | (simp; done) | (simp [*]; done), by repeat (first | exact Drawn0.refl _ | apply Drawn0.step)⟩
      · replace c4 := Bool.eq_false_iff.mpr c4
        subst c4
        have H1 : (valiseref05_Often.l0 kj1 l0 0) = some r := by rw [if_neg (show ¬ (false = true) by decide)] at H; exact H
        clear H
        have H := H1
        clear H1
        have H' := Aside0.mk H
        clear H
        go_wp2
        go_loopg [3] kj1 (fun kq v3 w' => ∃ (x3_2 : Int), v3 = .int .i64 x3_2 ∧ Aside0 (valiseref05_Often.l0 kq l0 x3_2 = some r) ∧ Aside0 (kq ≤ kj1) ∧ Drawn0 w w')
        case atStart => exact ⟨(0), (by first | rfl | (simp; done) | (simp [*]; done)), H', ⟨Nat.le_refl _⟩, by repeat (first | exact Drawn0.refl _ | apply Drawn0.step)⟩
        case round =>
          clear H'
          try clear c1
          try clear c2
          try clear p2
          try clear c3
          try clear c3b0
          try clear c3b1
          try clear c3b2
          try clear c4
          try clear p2
          obtain ⟨x3_2, rfl, HA, HK2, ⟨m2, rfl⟩⟩ := hrel
          cases gk with
          | zero => exact absurd HA.out (by simp [valiseref05_Often.l0])
          | succ k2 =>
            have H := HA.out
            clear HA
            simp only [valiseref05_Often.l0] at H
            by_cases c5 : x3_2 < (l0.length : Int)
            · rw [if_pos c5] at H
              have c5b0 : decide (x3_2 < (l0.length : Int)) = true := decide_eq_true c5
              clear c5
              by_cases c6 : 0 ≤ x3_2
              · rw [if_pos c6] at H
                have c6b0 : decide (0 ≤ x3_2) = true := decide_eq_true c6
                clear c6
                by_cases c7 : (rd l0 x3_2) < 0
                · rw [if_pos c7] at H
                  have c7b0 : decide ((rd l0 x3_2) < 0) = true := decide_eq_true c7
                  clear c7
                  obtain rfl := Option.some.inj H
                  have p102 : 0 ≤ (x3_2 : Int) := of_decide_eq_true (by first | (with_reducible assumption) | assumption)
                  have q102 : x3_2 < (l0.length : Int) := of_decide_eq_true (by first | (with_reducible assumption) | assumption)
                  obtain ⟨ad102, e102, hx102_0⟩ := Kd.at_int HR0.out x3_2 p102 q102
                  cases e102
                  replace p102 := eq_true p102
                  replace q102 := eq_true q102
                  go_wp2
                  go_ret
                  exact ⟨by first | rfl | (simp; done) | (simp [*]; done), by repeat (first | exact Drawn0.refl _ | apply Drawn0.step)⟩
                · rw [if_neg c7] at H
                  have c7b0 : decide ((rd l0 x3_2) < 0) = false := decide_eq_false c7
                  clear c7
                  by_cases c8 : (rd l0 x3_2) > 4294967295
                  · rw [if_pos c8] at H
                    have c8b0 : decide (4294967295 < (rd l0 x3_2)) = true := decide_eq_true c8
                    clear c8
                    obtain rfl := Option.some.inj H
                    have p102 : 0 ≤ (x3_2 : Int) := of_decide_eq_true (by first | (with_reducible assumption) | assumption)
                    have q102 : x3_2 < (l0.length : Int) := of_decide_eq_true (by first | (with_reducible assumption) | assumption)
                    obtain ⟨ad102, e102, hx102_0⟩ := Kd.at_int HR0.out x3_2 p102 q102
                    cases e102
                    replace p102 := eq_true p102
                    replace q102 := eq_true q102
                    have p103 : 0 ≤ (x3_2 : Int) := of_decide_eq_true (by first | (with_reducible assumption) | assumption)
                    have q103 : x3_2 < (l0.length : Int) := of_decide_eq_true (by first | (with_reducible assumption) | assumption)
                    obtain ⟨ad103, e103, hx103_0⟩ := Kd.at_int HR0.out x3_2 p103 q103
                    obtain rfl : ad102 = ad103 := (by injection e103)
                    replace p103 := eq_true p103
                    replace q103 := eq_true q103
                    go_wp2
                    go_ret
                    exact ⟨by first | rfl | (simp; done) | (simp [*]; done), by repeat (first | exact Drawn0.refl _ | apply Drawn0.step)⟩
                  · rw [if_neg c8] at H
                    have c8b0 : decide (4294967295 < (rd l0 x3_2)) = false := decide_eq_false c8
                    clear c8
                    have H' := Aside0.mk H
                    clear H
                    have p102 : 0 ≤ (x3_2 : Int) := of_decide_eq_true (by first | (with_reducible assumption) | assumption)
                    have q102 : x3_2 < (l0.length : Int) := of_decide_eq_true (by first | (with_reducible assumption) | assumption)
                    obtain ⟨ad102, e102, hx102_0⟩ := Kd.at_int HR0.out x3_2 p102 q102
                    cases e102
                    replace p102 := eq_true p102
                    replace q102 := eq_true q102
                    have p103 : 0 ≤ (x3_2 : Int) := of_decide_eq_true (by first | (with_reducible assumption) | assumption)
                    have q103 : x3_2 < (l0.length : Int) := of_decide_eq_true (by first | (with_reducible assumption) | assumption)
                    obtain ⟨ad103, e103, hx103_0⟩ := Kd.at_int HR0.out x3_2 p103 q103
                    obtain rfl : ad102 = ad103 := (by injection e103)
                    replace p103 := eq_true p103
                    replace q103 := eq_true q103
                    go_wp2
                    go_roundg k2
                    case measure => have := HJ1.out; have := HK2.out; omega
                    case rel => exact ⟨(wrap64 (x3_2 + 1)), (by first | rfl | (simp; done) | (simp [*]; done)), H', ⟨by have := HJ1.out; have := HK2.out; omega⟩, by repeat (first | exact Drawn0.refl _ | apply Drawn0.step)⟩
              · rw [if_neg c6] at H
                exact absurd H (by simp)
            · rw [if_neg c5] at H
              have c5b0 : decide (x3_2 < (l0.length : Int)) = false := decide_eq_false c5
              clear c5
              obtain rfl := Option.some.inj H
              go_wp2
              go_ret
              exact ⟨by first | rfl | (simp; done) | (simp [*]; done), by repeat (first | exact Drawn0.refl _ | apply Drawn0.step)⟩

end Go.Proofs.Ytdgpcjhincgijaa.Pg

