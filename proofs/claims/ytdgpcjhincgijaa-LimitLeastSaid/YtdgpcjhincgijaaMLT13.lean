-- Texts by hand and by programs of this session, joined (wip/tool/merge.py).
import Derived.RangeFuncNested
import Derived.RangeFuncBound
import Derived.RangeFuncCalls
import Derived.RangeFuncLeaves
import Derived.RangeFuncBox
import Derived.Shelf.Abstract
import Derived.Shelf.RegionOpen
import Derived.OwnWalkIn
import Derived.TacticsInMore
import Derived.LoopNIn
import Derived.LoopIn
import Derived.Test.YtdgpcjhincgijaaMLT4
import Derived.Test.YtdgpcjhincgijaaMLT12
import Derived.Test.YtdgpcjhincgijaaMLT11
import Derived.Test.YtdgpcjhincgijaaMLT9
import Derived.Test.YtdgpcjhincgijaaProg
import Derived.Below
import Derived.Deep.Draws
import Derived.Deep.AppendLies
import Derived.Maps.AppendAt
import Derived.OwnWalk
import Derived.Laws.BytesArg
import Derived.Laws.MakeOwn
import Derived.Laws.OwnMore
import Derived.Deep.OwnRows
import Derived.Tactics
import Derived.Lib.ConvBytes
import Derived.Laws.Slices
import Derived.WalkKit
import Derived.KernelRfl
import Derived.RowKit3
import Derived.Deep.LoopGhost
import Derived.Deep.QuietTactic
import Derived.BigQuiet
import Derived.WideLaws
import Derived.Deep.DeepCutAuto
import Derived.Deep.CutBlock
import Derived.Deep.RegionHeld3
import Derived.Laws.Rows
import Derived.Lib.AppendStr
import Derived.ArgAppend
import Derived.Laws.IdiomCopy
import Derived.OrdersHeld
import Derived.Laws.BitsLemmas
import Derived.RowKit
import Derived.Lib.SliceRun
import Derived.Laws.BitsAllLaws
import Derived.Test.YtdgpcjhincgijaaMLT1
import Derived.Test.YtdgpcjhincgijaaMLT2
import Derived.Test.YtdgpcjhincgijaaMLT3
-- YtdgpcjhincgijaaLh5
namespace Go.Proofs.Ytdgpcjhincgijaa.Pr
open Go.RowKit Go.Shelf Go.Proofs.YtdgpcjhincgijaaW.PrintWords Go.Proofs.YtdgpcjhincgijaaW.PrintLast Go.Proofs.YtdgpcjhincgijaaW.PrintMore
set_option linter.unusedVariables false
set_option linter.unusedSimpArgs false
def checkS (zs : List Int) : Int := if (countedS zs).2 = false then 2 else if roomS (countedS zs).1 < 0 then 11 else if roomS (countedS zs).1 > 0 then 12 else 0
theorem countedS_len (zs : List Int) : (countedS zs).1.length = 16 := by
  unfold countedS
  split
  · rfl
  · split
    · exact cntL_len _
    · rfl
set_option maxRecDepth 100000 in
set_option maxHeartbeats 4000000 in
theorem huff_Check_in (A : Option Addr) (c : Nat) (l : List Int) (w : World) (hr : (Kd.int .i64).C w A l.length l) : Calls Try.prog 30 #[.slice A l.length c] w fun e w' => e = .returned (.int .i64 (checkS l)) ∧ Below w.heap.size w w' := by
  have hlen := countedS_len l
  have K := huff_counted.calls A c l w hr
  unfold CountedPost at K
  unfold checkS
  generalize countedS l = cs at hlen K ⊢
  obtain ⟨cl, ok⟩ := cs
  dsimp only at hlen K ⊢
  obtain ⟨x0, cl, rfl⟩ := List.exists_cons_of_length_pos (l := cl) (by omega)
  obtain ⟨x1, cl, rfl⟩ := List.exists_cons_of_length_pos (l := cl) (by simp only [List.length_cons] at hlen; omega)
  obtain ⟨x2, cl, rfl⟩ := List.exists_cons_of_length_pos (l := cl) (by simp only [List.length_cons] at hlen; omega)
  obtain ⟨x3, cl, rfl⟩ := List.exists_cons_of_length_pos (l := cl) (by simp only [List.length_cons] at hlen; omega)
  obtain ⟨x4, cl, rfl⟩ := List.exists_cons_of_length_pos (l := cl) (by simp only [List.length_cons] at hlen; omega)
  obtain ⟨x5, cl, rfl⟩ := List.exists_cons_of_length_pos (l := cl) (by simp only [List.length_cons] at hlen; omega)
  obtain ⟨x6, cl, rfl⟩ := List.exists_cons_of_length_pos (l := cl) (by simp only [List.length_cons] at hlen; omega)
  obtain ⟨x7, cl, rfl⟩ := List.exists_cons_of_length_pos (l := cl) (by simp only [List.length_cons] at hlen; omega)
  obtain ⟨x8, cl, rfl⟩ := List.exists_cons_of_length_pos (l := cl) (by simp only [List.length_cons] at hlen; omega)
  obtain ⟨x9, cl, rfl⟩ := List.exists_cons_of_length_pos (l := cl) (by simp only [List.length_cons] at hlen; omega)
  obtain ⟨x10, cl, rfl⟩ := List.exists_cons_of_length_pos (l := cl) (by simp only [List.length_cons] at hlen; omega)
  obtain ⟨x11, cl, rfl⟩ := List.exists_cons_of_length_pos (l := cl) (by simp only [List.length_cons] at hlen; omega)
  obtain ⟨x12, cl, rfl⟩ := List.exists_cons_of_length_pos (l := cl) (by simp only [List.length_cons] at hlen; omega)
  obtain ⟨x13, cl, rfl⟩ := List.exists_cons_of_length_pos (l := cl) (by simp only [List.length_cons] at hlen; omega)
  obtain ⟨x14, cl, rfl⟩ := List.exists_cons_of_length_pos (l := cl) (by simp only [List.length_cons] at hlen; omega)
  obtain ⟨x15, cl, rfl⟩ := List.exists_cons_of_length_pos (l := cl) (by simp only [List.length_cons] at hlen; omega)
  obtain rfl : cl = [] := List.eq_nil_of_length_eq_zero (by simp only [List.length_cons] at hlen; omega)
  have K2 := Aside0.mk K
  clear K hlen
  cases ok with
  | false =>
    go_enter Try.func30, Try.ntmps30
    go_wp2_with (first
        | (go_at_call 37; refine (K2.out).mono ?_; rintro e_ w3 ⟨rfl, hb⟩; have HB := Aside0.mk hb; clear hb; simp only [agg16, List.map_cons, List.map_nil])
        | ((with_reducible refine gate_dst (N := 3) rfl ?_); refine box_event ?hg (N := 3) ?hd (cs := #[.int .i64 0, .int .i64 0, .int .i64 0, .int .i64 0, .int .i64 0, .int .i64 0, .int .i64 0, .int .i64 0, .int .i64 0, .int .i64 0, .int .i64 0, .int .i64 0, .int .i64 0, .int .i64 0, .int .i64 0, .int .i64 0]) (t := 62) ?hr ?_; (case hd => rfl); (case hg => rfl); (case hr => first | (go_simp; done) | (go_simp; rfl)); intro g3 hg w4 hbox hb; have B3 := Aside0.mk hbox; have G3 := Aside0.mk (show w.heap.size ≤ g3 by rw [hg]; exact HB.out.size); have H4 := Aside0.mk (below_then HB.out HB.out.size hb); clear hg hbox hb; have hc0 : w4.cell? ⟨g3, 0, none⟩ = some (.int .i64 0) := (blk_cell B3.out 0).trans rfl; have hf0 := blk_frozen B3.out 0; have hc1 : w4.cell? ⟨g3, 1, none⟩ = some (.int .i64 0) := (blk_cell B3.out 1).trans rfl; have hf1 := blk_frozen B3.out 1; have hc2 : w4.cell? ⟨g3, 2, none⟩ = some (.int .i64 0) := (blk_cell B3.out 2).trans rfl; have hf2 := blk_frozen B3.out 2; have hc3 : w4.cell? ⟨g3, 3, none⟩ = some (.int .i64 0) := (blk_cell B3.out 3).trans rfl; have hf3 := blk_frozen B3.out 3; have hc4 : w4.cell? ⟨g3, 4, none⟩ = some (.int .i64 0) := (blk_cell B3.out 4).trans rfl; have hf4 := blk_frozen B3.out 4; have hc5 : w4.cell? ⟨g3, 5, none⟩ = some (.int .i64 0) := (blk_cell B3.out 5).trans rfl; have hf5 := blk_frozen B3.out 5; have hc6 : w4.cell? ⟨g3, 6, none⟩ = some (.int .i64 0) := (blk_cell B3.out 6).trans rfl; have hf6 := blk_frozen B3.out 6; have hc7 : w4.cell? ⟨g3, 7, none⟩ = some (.int .i64 0) := (blk_cell B3.out 7).trans rfl; have hf7 := blk_frozen B3.out 7; have hc8 : w4.cell? ⟨g3, 8, none⟩ = some (.int .i64 0) := (blk_cell B3.out 8).trans rfl; have hf8 := blk_frozen B3.out 8; have hc9 : w4.cell? ⟨g3, 9, none⟩ = some (.int .i64 0) := (blk_cell B3.out 9).trans rfl; have hf9 := blk_frozen B3.out 9; have hc10 : w4.cell? ⟨g3, 10, none⟩ = some (.int .i64 0) := (blk_cell B3.out 10).trans rfl; have hf10 := blk_frozen B3.out 10; have hc11 : w4.cell? ⟨g3, 11, none⟩ = some (.int .i64 0) := (blk_cell B3.out 11).trans rfl; have hf11 := blk_frozen B3.out 11; have hc12 : w4.cell? ⟨g3, 12, none⟩ = some (.int .i64 0) := (blk_cell B3.out 12).trans rfl; have hf12 := blk_frozen B3.out 12; have hc13 : w4.cell? ⟨g3, 13, none⟩ = some (.int .i64 0) := (blk_cell B3.out 13).trans rfl; have hf13 := blk_frozen B3.out 13; have hc14 : w4.cell? ⟨g3, 14, none⟩ = some (.int .i64 0) := (blk_cell B3.out 14).trans rfl; have hf14 := blk_frozen B3.out 14; have hc15 : w4.cell? ⟨g3, 15, none⟩ = some (.int .i64 0) := (blk_cell B3.out 15).trans rfl; have hf15 := blk_frozen B3.out 15)
        )
    go_ret
    exact ⟨rfl, set16_below H4.out G3.out _ _ _ _ _ _ _ _ _ _ _ _ _ _ _ _⟩
  | true =>
    obtain ⟨y, hy⟩ : ∃ y, roomS [x0, x1, x2, x3, x4, x5, x6, x7, x8, x9, x10, x11, x12, x13, x14, x15] = y := ⟨_, rfl⟩
    rw [hy]
    simp only [Bool.true_eq_false, if_false]
    by_cases h1 : y < 0
    · rw [if_pos h1]
      have q1 := eq_true h1
      go_enter Try.func30, Try.ntmps30
      go_wp2_with (first
          | (go_at_call 37; refine (K2.out).mono ?_; rintro e_ w3 ⟨rfl, hb⟩; have HB := Aside0.mk hb; clear hb; simp only [agg16, List.map_cons, List.map_nil])
          | ((with_reducible refine gate_dst (N := 3) rfl ?_); refine box_event ?hg (N := 3) ?hd (cs := #[.int .i64 0, .int .i64 0, .int .i64 0, .int .i64 0, .int .i64 0, .int .i64 0, .int .i64 0, .int .i64 0, .int .i64 0, .int .i64 0, .int .i64 0, .int .i64 0, .int .i64 0, .int .i64 0, .int .i64 0, .int .i64 0]) (t := 62) ?hr ?_; (case hd => rfl); (case hg => rfl); (case hr => first | (go_simp; done) | (go_simp; rfl)); intro g3 hg w4 hbox hb; have B3 := Aside0.mk hbox; have G3 := Aside0.mk (show w.heap.size ≤ g3 by rw [hg]; exact HB.out.size); have H4 := Aside0.mk (below_then HB.out HB.out.size hb); clear hg hbox hb; have hc0 : w4.cell? ⟨g3, 0, none⟩ = some (.int .i64 0) := (blk_cell B3.out 0).trans rfl; have hf0 := blk_frozen B3.out 0; have hc1 : w4.cell? ⟨g3, 1, none⟩ = some (.int .i64 0) := (blk_cell B3.out 1).trans rfl; have hf1 := blk_frozen B3.out 1; have hc2 : w4.cell? ⟨g3, 2, none⟩ = some (.int .i64 0) := (blk_cell B3.out 2).trans rfl; have hf2 := blk_frozen B3.out 2; have hc3 : w4.cell? ⟨g3, 3, none⟩ = some (.int .i64 0) := (blk_cell B3.out 3).trans rfl; have hf3 := blk_frozen B3.out 3; have hc4 : w4.cell? ⟨g3, 4, none⟩ = some (.int .i64 0) := (blk_cell B3.out 4).trans rfl; have hf4 := blk_frozen B3.out 4; have hc5 : w4.cell? ⟨g3, 5, none⟩ = some (.int .i64 0) := (blk_cell B3.out 5).trans rfl; have hf5 := blk_frozen B3.out 5; have hc6 : w4.cell? ⟨g3, 6, none⟩ = some (.int .i64 0) := (blk_cell B3.out 6).trans rfl; have hf6 := blk_frozen B3.out 6; have hc7 : w4.cell? ⟨g3, 7, none⟩ = some (.int .i64 0) := (blk_cell B3.out 7).trans rfl; have hf7 := blk_frozen B3.out 7; have hc8 : w4.cell? ⟨g3, 8, none⟩ = some (.int .i64 0) := (blk_cell B3.out 8).trans rfl; have hf8 := blk_frozen B3.out 8; have hc9 : w4.cell? ⟨g3, 9, none⟩ = some (.int .i64 0) := (blk_cell B3.out 9).trans rfl; have hf9 := blk_frozen B3.out 9; have hc10 : w4.cell? ⟨g3, 10, none⟩ = some (.int .i64 0) := (blk_cell B3.out 10).trans rfl; have hf10 := blk_frozen B3.out 10; have hc11 : w4.cell? ⟨g3, 11, none⟩ = some (.int .i64 0) := (blk_cell B3.out 11).trans rfl; have hf11 := blk_frozen B3.out 11; have hc12 : w4.cell? ⟨g3, 12, none⟩ = some (.int .i64 0) := (blk_cell B3.out 12).trans rfl; have hf12 := blk_frozen B3.out 12; have hc13 : w4.cell? ⟨g3, 13, none⟩ = some (.int .i64 0) := (blk_cell B3.out 13).trans rfl; have hf13 := blk_frozen B3.out 13; have hc14 : w4.cell? ⟨g3, 14, none⟩ = some (.int .i64 0) := (blk_cell B3.out 14).trans rfl; have hf14 := blk_frozen B3.out 14; have hc15 : w4.cell? ⟨g3, 15, none⟩ = some (.int .i64 0) := (blk_cell B3.out 15).trans rfl; have hf15 := blk_frozen B3.out 15)
          | (go_at_call 38; refine (room.calls g3 [x0, x1, x2, x3, x4, x5, x6, x7, x8, x9, x10, x11, x12, x13, x14, x15] rfl _ (set16 B3.out _ _ _ _ _ _ _ _ _ _ _ _ _ _ _ _)).mono ?_; rintro e_ w5 ⟨rfl, rfl⟩; rw [hy])
          )
      go_ret
      exact ⟨rfl, set16_below H4.out G3.out _ _ _ _ _ _ _ _ _ _ _ _ _ _ _ _⟩
    · rw [if_neg h1]
      by_cases h2 : y > 0
      · rw [if_pos h2]
        have q1 := eq_false h1
        have q2 := eq_true h2
        have q3 := eq_true (show 0 < y from h2)
        go_enter Try.func30, Try.ntmps30
        go_wp2_with (first
            | (go_at_call 37; refine (K2.out).mono ?_; rintro e_ w3 ⟨rfl, hb⟩; have HB := Aside0.mk hb; clear hb; simp only [agg16, List.map_cons, List.map_nil])
            | ((with_reducible refine gate_dst (N := 3) rfl ?_); refine box_event ?hg (N := 3) ?hd (cs := #[.int .i64 0, .int .i64 0, .int .i64 0, .int .i64 0, .int .i64 0, .int .i64 0, .int .i64 0, .int .i64 0, .int .i64 0, .int .i64 0, .int .i64 0, .int .i64 0, .int .i64 0, .int .i64 0, .int .i64 0, .int .i64 0]) (t := 62) ?hr ?_; (case hd => rfl); (case hg => rfl); (case hr => first | (go_simp; done) | (go_simp; rfl)); intro g3 hg w4 hbox hb; have B3 := Aside0.mk hbox; have G3 := Aside0.mk (show w.heap.size ≤ g3 by rw [hg]; exact HB.out.size); have H4 := Aside0.mk (below_then HB.out HB.out.size hb); clear hg hbox hb; have hc0 : w4.cell? ⟨g3, 0, none⟩ = some (.int .i64 0) := (blk_cell B3.out 0).trans rfl; have hf0 := blk_frozen B3.out 0; have hc1 : w4.cell? ⟨g3, 1, none⟩ = some (.int .i64 0) := (blk_cell B3.out 1).trans rfl; have hf1 := blk_frozen B3.out 1; have hc2 : w4.cell? ⟨g3, 2, none⟩ = some (.int .i64 0) := (blk_cell B3.out 2).trans rfl; have hf2 := blk_frozen B3.out 2; have hc3 : w4.cell? ⟨g3, 3, none⟩ = some (.int .i64 0) := (blk_cell B3.out 3).trans rfl; have hf3 := blk_frozen B3.out 3; have hc4 : w4.cell? ⟨g3, 4, none⟩ = some (.int .i64 0) := (blk_cell B3.out 4).trans rfl; have hf4 := blk_frozen B3.out 4; have hc5 : w4.cell? ⟨g3, 5, none⟩ = some (.int .i64 0) := (blk_cell B3.out 5).trans rfl; have hf5 := blk_frozen B3.out 5; have hc6 : w4.cell? ⟨g3, 6, none⟩ = some (.int .i64 0) := (blk_cell B3.out 6).trans rfl; have hf6 := blk_frozen B3.out 6; have hc7 : w4.cell? ⟨g3, 7, none⟩ = some (.int .i64 0) := (blk_cell B3.out 7).trans rfl; have hf7 := blk_frozen B3.out 7; have hc8 : w4.cell? ⟨g3, 8, none⟩ = some (.int .i64 0) := (blk_cell B3.out 8).trans rfl; have hf8 := blk_frozen B3.out 8; have hc9 : w4.cell? ⟨g3, 9, none⟩ = some (.int .i64 0) := (blk_cell B3.out 9).trans rfl; have hf9 := blk_frozen B3.out 9; have hc10 : w4.cell? ⟨g3, 10, none⟩ = some (.int .i64 0) := (blk_cell B3.out 10).trans rfl; have hf10 := blk_frozen B3.out 10; have hc11 : w4.cell? ⟨g3, 11, none⟩ = some (.int .i64 0) := (blk_cell B3.out 11).trans rfl; have hf11 := blk_frozen B3.out 11; have hc12 : w4.cell? ⟨g3, 12, none⟩ = some (.int .i64 0) := (blk_cell B3.out 12).trans rfl; have hf12 := blk_frozen B3.out 12; have hc13 : w4.cell? ⟨g3, 13, none⟩ = some (.int .i64 0) := (blk_cell B3.out 13).trans rfl; have hf13 := blk_frozen B3.out 13; have hc14 : w4.cell? ⟨g3, 14, none⟩ = some (.int .i64 0) := (blk_cell B3.out 14).trans rfl; have hf14 := blk_frozen B3.out 14; have hc15 : w4.cell? ⟨g3, 15, none⟩ = some (.int .i64 0) := (blk_cell B3.out 15).trans rfl; have hf15 := blk_frozen B3.out 15)
            | (go_at_call 38; refine (room.calls g3 [x0, x1, x2, x3, x4, x5, x6, x7, x8, x9, x10, x11, x12, x13, x14, x15] rfl _ (set16 B3.out _ _ _ _ _ _ _ _ _ _ _ _ _ _ _ _)).mono ?_; rintro e_ w5 ⟨rfl, rfl⟩; rw [hy])
            )
        go_ret
        exact ⟨rfl, set16_below H4.out G3.out _ _ _ _ _ _ _ _ _ _ _ _ _ _ _ _⟩
      · rw [if_neg h2]
        have q1 := eq_false h1
        have q2 := eq_false h2
        have q3 := eq_false (show ¬ 0 < y from h2)
        go_enter Try.func30, Try.ntmps30
        go_wp2_with (first
            | (go_at_call 37; refine (K2.out).mono ?_; rintro e_ w3 ⟨rfl, hb⟩; have HB := Aside0.mk hb; clear hb; simp only [agg16, List.map_cons, List.map_nil])
            | ((with_reducible refine gate_dst (N := 3) rfl ?_); refine box_event ?hg (N := 3) ?hd (cs := #[.int .i64 0, .int .i64 0, .int .i64 0, .int .i64 0, .int .i64 0, .int .i64 0, .int .i64 0, .int .i64 0, .int .i64 0, .int .i64 0, .int .i64 0, .int .i64 0, .int .i64 0, .int .i64 0, .int .i64 0, .int .i64 0]) (t := 62) ?hr ?_; (case hd => rfl); (case hg => rfl); (case hr => first | (go_simp; done) | (go_simp; rfl)); intro g3 hg w4 hbox hb; have B3 := Aside0.mk hbox; have G3 := Aside0.mk (show w.heap.size ≤ g3 by rw [hg]; exact HB.out.size); have H4 := Aside0.mk (below_then HB.out HB.out.size hb); clear hg hbox hb; have hc0 : w4.cell? ⟨g3, 0, none⟩ = some (.int .i64 0) := (blk_cell B3.out 0).trans rfl; have hf0 := blk_frozen B3.out 0; have hc1 : w4.cell? ⟨g3, 1, none⟩ = some (.int .i64 0) := (blk_cell B3.out 1).trans rfl; have hf1 := blk_frozen B3.out 1; have hc2 : w4.cell? ⟨g3, 2, none⟩ = some (.int .i64 0) := (blk_cell B3.out 2).trans rfl; have hf2 := blk_frozen B3.out 2; have hc3 : w4.cell? ⟨g3, 3, none⟩ = some (.int .i64 0) := (blk_cell B3.out 3).trans rfl; have hf3 := blk_frozen B3.out 3; have hc4 : w4.cell? ⟨g3, 4, none⟩ = some (.int .i64 0) := (blk_cell B3.out 4).trans rfl; have hf4 := blk_frozen B3.out 4; have hc5 : w4.cell? ⟨g3, 5, none⟩ = some (.int .i64 0) := (blk_cell B3.out 5).trans rfl; have hf5 := blk_frozen B3.out 5; have hc6 : w4.cell? ⟨g3, 6, none⟩ = some (.int .i64 0) := (blk_cell B3.out 6).trans rfl; have hf6 := blk_frozen B3.out 6; have hc7 : w4.cell? ⟨g3, 7, none⟩ = some (.int .i64 0) := (blk_cell B3.out 7).trans rfl; have hf7 := blk_frozen B3.out 7; have hc8 : w4.cell? ⟨g3, 8, none⟩ = some (.int .i64 0) := (blk_cell B3.out 8).trans rfl; have hf8 := blk_frozen B3.out 8; have hc9 : w4.cell? ⟨g3, 9, none⟩ = some (.int .i64 0) := (blk_cell B3.out 9).trans rfl; have hf9 := blk_frozen B3.out 9; have hc10 : w4.cell? ⟨g3, 10, none⟩ = some (.int .i64 0) := (blk_cell B3.out 10).trans rfl; have hf10 := blk_frozen B3.out 10; have hc11 : w4.cell? ⟨g3, 11, none⟩ = some (.int .i64 0) := (blk_cell B3.out 11).trans rfl; have hf11 := blk_frozen B3.out 11; have hc12 : w4.cell? ⟨g3, 12, none⟩ = some (.int .i64 0) := (blk_cell B3.out 12).trans rfl; have hf12 := blk_frozen B3.out 12; have hc13 : w4.cell? ⟨g3, 13, none⟩ = some (.int .i64 0) := (blk_cell B3.out 13).trans rfl; have hf13 := blk_frozen B3.out 13; have hc14 : w4.cell? ⟨g3, 14, none⟩ = some (.int .i64 0) := (blk_cell B3.out 14).trans rfl; have hf14 := blk_frozen B3.out 14; have hc15 : w4.cell? ⟨g3, 15, none⟩ = some (.int .i64 0) := (blk_cell B3.out 15).trans rfl; have hf15 := blk_frozen B3.out 15)
            | (go_at_call 38; refine (room.calls g3 [x0, x1, x2, x3, x4, x5, x6, x7, x8, x9, x10, x11, x12, x13, x14, x15] rfl _ (set16 B3.out _ _ _ _ _ _ _ _ _ _ _ _ _ _ _ _)).mono ?_; rintro e_ w5 ⟨rfl, rfl⟩; rw [hy])
            )
        go_ret
        exact ⟨rfl, set16_below H4.out G3.out _ _ _ _ _ _ _ _ _ _ _ _ _ _ _ _⟩
end Go.Proofs.Ytdgpcjhincgijaa.Pr

-- YtdgpcjhincgijaaLm8
namespace Go.Proofs.Ytdgpcjhincgijaa.Pr
open Go.RowKit Go.Shelf Go.Proofs.YtdgpcjhincgijaaW.PrintWords Go.Proofs.YtdgpcjhincgijaaW.PrintLast Go.Proofs.YtdgpcjhincgijaaW.PrintMore
set_option linter.unusedVariables false
set_option linter.unusedSimpArgs false
section
attribute [local go_sem] Oper.semAt_some
/-! ### What lengths cost -/
def dotS (f l : List Int) : Nat → Int
  | 0 => 0
  | k + 1 => dotS f l k + f.getD k 0 * l.getD k 0
def costS (f l : List Int) : Int × Int := if oftenS f = true ∧ f.length = l.length ∧ checkS l ≠ 2 then (dotS f l f.length, 0) else (0, 2)
theorem checkS_lens {zs : List Int} (h : checkS zs ≠ 2) : 1 ≤ zs.length ∧ zs.length ≤ 288 ∧ ∀ k : Nat, k < zs.length → 0 ≤ zs.getD k 0 ∧ zs.getD k 0 ≤ 15 := by
  have h0 : (countedS zs).2 = true := by
    cases e : (countedS zs).2 with
    | true => rfl
    | false => exact absurd (by unfold checkS; rw [if_pos e]) h
  unfold countedS at h0
  by_cases h1 : zs.length < 1 ∨ 288 < zs.length
  · rw [if_pos h1] at h0
    cases h0
  · rw [if_neg h1] at h0
    by_cases h2 : (usedL zs zs.length).all (fun x => decide (Lok x.2)) = true
    · refine ⟨by omega, by omega, fun k hk => ?_⟩
      by_cases hz : zs.getD k 0 = 0
      · omega
      · have hm : (k, zs.getD k 0) ∈ usedL zs zs.length := by
          unfold usedL
          rw [List.mem_filter]
          exact ⟨List.mem_map.2 ⟨k, List.mem_range.2 hk, by rw [List.getD_eq_getElem?_getD]⟩, by simpa using hz⟩
        have := List.all_eq_true.1 h2 _ hm
        exact of_decide_eq_true this
    · rw [if_neg h2] at h0
      cases h0
theorem dotS_bound {f l : List Int} (hf : ∀ k : Nat, k < f.length → 0 ≤ f.getD k 0 ∧ f.getD k 0 ≤ 4294967295) (hl : ∀ k : Nat, k < f.length → 0 ≤ l.getD k 0 ∧ l.getD k 0 ≤ 15) : ∀ k, k ≤ f.length → 0 ≤ dotS f l k ∧ dotS f l k ≤ (k : Int) * 64424509425
  | 0, _ => ⟨by unfold dotS; omega, by unfold dotS; omega⟩
  | k + 1, hk => by
    have h := dotS_bound hf hl k (by omega)
    have h1 := hf k (by omega)
    have h2 := hl k (by omega)
    have h3 : 0 ≤ f.getD k 0 * l.getD k 0 := Int.mul_nonneg h1.1 h2.1
    have h4 : f.getD k 0 * l.getD k 0 ≤ 4294967295 * 15 := Int.mul_le_mul h1.2 h2.2 h2.1 (by omega)
    unfold dotS
    generalize f.getD k 0 * l.getD k 0 = z at *
    constructor <;> omega
set_option maxHeartbeats 16000000 in
set_option maxRecDepth 1000000 in
theorem cost_calls (A1 A2 : Option Addr) (c1 c2 : Nat) (f l : List Int) (w : World) (hf : (Kd.int .i64).C w A1 f.length f) (hl : (Kd.int .i64).C w A2 l.length l) :
    Calls Try.prog 16 #[.slice A1 f.length c1, .slice A2 l.length c2] w fun e w' => e = .returned (.tuple #[.int .i64 (costS f l).1, .int .i64 (costS f l).2]) ∧ Below w.heap.size w w' := by
  have HF := Aside0.mk hf
  have HL := Aside0.mk hl
  clear hf hl
  by_cases hof : oftenS f = true
  · by_cases hlen : f.length = l.length
    · by_cases hck : checkS l = 2
      · have e0 : costS f l = (0, 2) := if_neg (fun h => h.2.2 hck)
        rw [e0]
        have HOF := Aside0.mk hof
        have HCK := Aside0.mk hck
        have q2 := eq_true (show (f.length : Int) = (l.length : Int) by omega)
        have q2b : ((f.length : Int) != (l.length : Int)) = false := by rw [bne_eq_false_iff_eq]; omega
        have HLN := Aside0.mk hlen
        clear hlen hof hck e0
        go_enter Try.func16, Try.ntmps16
        go_wp2_with (first
          | (go_at_call 19; have hcc := often_calls A1 c1 f _ HF.out; rw [HOF.out] at hcc; refine hcc.mono ?_; clear hcc; rintro e_ w3 ⟨rfl, hw3⟩; have hw4 := hw3.symm; subst hw4; clear hw3)
          | (go_at_call 30; have hcc := huff_Check_in A2 c2 l _ HL.out; rw [HCK.out] at hcc; refine hcc.mono ?_; clear hcc; rintro e_ w3 ⟨rfl, hb⟩; have HB := Aside0.mk hb; clear hb)
          )
        go_ret2
        exact ⟨rfl, HB.out⟩
      · have e0 : costS f l = (dotS f l f.length, 0) := if_pos ⟨hof, hlen, hck⟩
        rw [e0]
        obtain ⟨hl1, hl2, hl3⟩ := checkS_lens hck
        have HLB := Aside0.mk hl3
        have HLN := Aside0.mk hlen
        have HFB := Aside0.mk (often_at hof)
        have HL8 := Aside0.mk hl2
        have HOF := Aside0.mk hof
        obtain ⟨ck, hc⟩ : ∃ ck, checkS l = ck := ⟨_, rfl⟩
        rw [hc] at hck
        have HCK := Aside0.mk hc
        have q0 := eq_false hck
        have q1 : (ck == 2) = false := beq_eq_false_iff_ne.mpr hck
        have q2 := eq_true (show (f.length : Int) = (l.length : Int) by omega)
        have q2b : ((f.length : Int) != (l.length : Int)) = false := by rw [bne_eq_false_iff_eq]; omega
        clear hc hl1 hl2 hl3 hlen hck hof e0
        go_enter Try.func16, Try.ntmps16
        go_wp2_with (first
          | (go_at_call 19; have hcc := often_calls A1 c1 f _ HF.out; rw [HOF.out] at hcc; refine hcc.mono ?_; clear hcc; rintro e_ w3 ⟨rfl, hw3⟩; have hw4 := hw3.symm; subst hw4; clear hw3)
          | (go_at_call 30; have hcc := huff_Check_in A2 c2 l _ HL.out; rw [HCK.out] at hcc; refine hcc.mono ?_; clear hcc; rintro e_ w3 ⟨rfl, hb⟩; have HB := Aside0.mk hb; clear hb)
          )
        go_loopw [6, 26] (fun x6 x26 w' => ∃ k : Nat, k ≤ f.length ∧ x26 = .int .i64 (k : Int) ∧ x6 = .int .i64 (dotS f l k) ∧ Aside0 (Below w.heap.size w w')) (fun _ x26 _ => f.length + 1 - (intOf x26).toNat)
        case atStart => exact ⟨0, by omega, rfl, rfl, HB⟩
        case round =>
          clear HB
          obtain ⟨k, hk, rfl, rfl, HB⟩ := hrel
          by_cases hlt : k < f.length
          · obtain ⟨a1, ea1, hx1⟩ := Kd.at_int (Kd.C_below HF.out HB.out) (k : Int) (by omega) (by omega)
            obtain ⟨a2, ea2, hx2⟩ := Kd.at_int (Kd.C_below HL.out HB.out) (k : Int) (by omega) (by have := HLN.out; omega)
            subst ea1
            subst ea2
            rw [Int.toNat_natCast] at hx1 hx2
            rw [rd_getD] at hx1 hx2
            have hf1 := HFB.out k hlt
            have hl1 := HLB.out k (by have := HLN.out; omega)
            have hd := dotS_bound HFB.out (fun k hk => HLB.out k (by have := HLN.out; omega)) (k + 1) (by omega)
            have hd1 : dotS f l (k + 1) = dotS f l k + f.getD k 0 * l.getD k 0 := rfl
            obtain ⟨x, hx⟩ : ∃ x, f.getD k 0 = x := ⟨_, rfl⟩
            obtain ⟨y, hy⟩ : ∃ y, l.getD k 0 = y := ⟨_, rfl⟩
            obtain ⟨d0, hd0⟩ : ∃ d0, dotS f l k = d0 := ⟨_, rfl⟩
            obtain ⟨d1, hd2⟩ : ∃ d1, dotS f l (k + 1) = d1 := ⟨_, rfl⟩
            have HD2 := Aside0.mk hd2
            rw [hd2, hx, hy, hd0] at hd1
            rw [hd2] at hd
            rw [hx] at hx1 hf1
            rw [hy] at hx2 hl1
            have h3 : 0 ≤ x * y := Int.mul_nonneg hf1.1 hl1.1
            have h4 : x * y ≤ 4294967295 * 15 := Int.mul_le_mul hf1.2 hl1.2 hl1.1 (by omega)
            have hkk := HL8.out
            have hkl := HLN.out
            have hw1 : wrap64 (x * y) = x * y := wrap64_id (by omega) (by omega)
            have hw2 : wrap64 (d0 + x * y) = d1 := by rw [← hd1]; exact wrap64_id (by omega) (by omega)
            have q3 := eq_true (show (k : Int) < (f.length : Int) by omega)
            have q4 := eq_true (show (k : Int) < (l.length : Int) by omega)
            have q5 := eq_true (show (0 : Int) ≤ (k : Int) by omega)
            have q6 := eq_true hlt
            have q7 := eq_true (show k < l.length by omega)
            have HK := Aside0.mk (show k < f.length ∧ f.length ≤ 288 by omega)
            clear hk hlt hf1 hl1 hd hd1 hd2 hx hy h3 h4 hkk hkl
            rw [hd0]
            clear hd0
            go_wp2
            go_roundw
            case rel => exact ⟨k + 1, by have := HK.out; omega, val_next _ (by have := HK.out; omega), by rw [HD2.out, hw2], HB⟩
            case measure => rw [nat_next _ (by have := HK.out; omega)]; simp only [intOf, Int.toNat_natCast]; have := HK.out; omega
          · obtain rfl : k = f.length := by omega
            have q3 := eq_false (show ¬ (f.length : Int) < (f.length : Int) by omega)
            go_wp2
            go_ret2
            exact ⟨rfl, HB.out⟩
    · have e0 : costS f l = (0, 2) := if_neg (fun h => hlen h.2.1)
      rw [e0]
      have HOF := Aside0.mk hof
      have q2 := eq_false (show ¬ (f.length : Int) = (l.length : Int) by omega)
      have q3 : ((f.length : Int) == (l.length : Int)) = false := beq_eq_false_iff_ne.mpr (by omega)
      have q3b : ((f.length : Int) != (l.length : Int)) = true := by rw [bne_iff_ne]; omega
      have q4 := eq_false hlen
      clear hlen hof e0
      go_enter Try.func16, Try.ntmps16
      go_wp2_with (go_at_call 19; have hcc := often_calls A1 c1 f _ HF.out; rw [HOF.out] at hcc; refine hcc.mono ?_; clear hcc; rintro e_ w3 ⟨rfl, hw3⟩; have hw4 := hw3.symm; subst hw4; clear hw3)
      go_ret2
      exact ⟨rfl, Below.refl _ _⟩
  · have e0 : costS f l = (0, 2) := if_neg (fun h => hof h.1)
    rw [e0]
    have HOF := Aside0.mk (Bool.eq_false_iff.mpr hof)
    clear hof e0
    go_enter Try.func16, Try.ntmps16
    go_wp2_with (go_at_call 19; have hcc := often_calls A1 c1 f _ HF.out; rw [HOF.out] at hcc; refine hcc.mono ?_; clear hcc; rintro e_ w3 ⟨rfl, hw3⟩; have hw4 := hw3.symm; subst hw4; clear hw3)
    go_ret2
    exact ⟨rfl, Below.refl _ _⟩
end
end Go.Proofs.Ytdgpcjhincgijaa.Pr

-- YtdgpcjhincgijaaLm9
namespace Go.Proofs.Ytdgpcjhincgijaa.Pr
open Go.RowKit Go.Shelf Go.Proofs.YtdgpcjhincgijaaW.PrintWords Go.Proofs.YtdgpcjhincgijaaW.PrintLast Go.Proofs.YtdgpcjhincgijaaW.PrintMore
set_option linter.unusedVariables false
set_option linter.unusedSimpArgs false
/-! ### There is one such sort -/
section
variable {α : Type} {κ : α → Int}
theorem srt_unique : ∀ {Z Z' : List α}, Srt κ Z → Srt κ Z' → Stb κ Z Z' → Z = Z'
  | [], Z', _, _, h => (List.eq_nil_of_length_eq_zero (h.len.trans rfl)).symm
  | z :: Z, [], _, _, h => absurd h.len (by simp)
  | z :: Z, z' :: Z', s, s', h => by
    obtain ⟨c, sZ⟩ := List.pairwise_cons.1 s
    obtain ⟨c', sZ'⟩ := List.pairwise_cons.1 s'
    have e : κ z = κ z' := by
      have h1 : κ z ≤ κ z' := by
        rcases List.mem_cons.1 ((h.mem z').1 (List.mem_cons_self ..)) with e | e
        · rw [e]; exact Int.le_refl _
        · exact c _ e
      have h2 : κ z' ≤ κ z := by
        rcases List.mem_cons.1 ((h.mem z).2 (List.mem_cons_self ..)) with e | e
        · rw [e]; exact Int.le_refl _
        · exact c' _ e
      omega
    have hk := h (κ z)
    rw [List.filter_cons, List.filter_cons, if_pos (beq_iff_eq.mpr e.symm), if_pos (beq_iff_eq.mpr rfl)] at hk
    injection hk with ez hk
    subst ez
    congr 1
    refine srt_unique sZ sZ' (fun k => ?_)
    have hk2 := h k
    rw [List.filter_cons, List.filter_cons] at hk2
    by_cases hh : κ z' = k
    · rw [if_pos (beq_iff_eq.mpr hh), if_pos (beq_iff_eq.mpr hh)] at hk2
      injection hk2
    · rw [if_neg (by rw [beq_iff_eq]; exact hh), if_neg (by rw [beq_iff_eq]; exact hh)] at hk2
      exact hk2
end
/-! ### Lengths as a function -/
abbrev PK := Int × List Int
def insF (x : PK) : List PK → List PK
  | [] => [x]
  | y :: t => if x.1 ≤ y.1 then x :: y :: t else y :: insF x t
def isortF (L : List PK) : List PK := L.foldr insF []
theorem insF_stb (x : PK) : ∀ Z, Stb wP (x :: Z) (insF x Z)
  | [] => Stb.refl _
  | y :: t => by
    unfold insF
    by_cases h : x.1 ≤ y.1
    · rw [if_pos h]
      exact Stb.refl _
    · rw [if_neg h]
      intro k
      have ih := insF_stb x t k
      rw [List.filter_cons, ih, List.filter_cons, List.filter_cons, List.filter_cons]
      by_cases h1 : (wP y == k) = true
      · have h2 : (wP x == k) = false := by
          rw [beq_iff_eq] at h1
          rw [beq_eq_false_iff_ne]
          unfold wP at h1 ⊢
          omega
        rw [if_pos h1, h2]
        simp [h1]
      · rw [if_neg h1]
        simp [h1]
theorem insF_srt (x : PK) : ∀ Z, Srt wP Z → Srt wP (insF x Z)
  | [], _ => List.pairwise_singleton _ _
  | y :: t, h => by
    obtain ⟨h1, h2⟩ := List.pairwise_cons.1 h
    unfold insF
    by_cases hx : x.1 ≤ y.1
    · rw [if_pos hx]
      refine List.pairwise_cons.2 ⟨fun z hz => ?_, h⟩
      rcases List.mem_cons.1 hz with rfl | hz
      · exact hx
      · exact Int.le_trans (show wP x ≤ wP y from hx) (h1 z hz)
    · rw [if_neg hx]
      refine List.pairwise_cons.2 ⟨fun z hz => ?_, insF_srt x t h2⟩
      rcases List.mem_cons.1 (((insF_stb x t).mem z).1 hz) with rfl | hz
      · unfold wP
        omega
      · exact h1 z hz
theorem isortF_spec : ∀ L : List PK, Srt wP (isortF L) ∧ Stb wP L (isortF L)
  | [] => ⟨List.Pairwise.nil, Stb.refl _⟩
  | x :: L => by
    obtain ⟨h1, h2⟩ := isortF_spec L
    refine ⟨insF_srt x _ h1, fun k => ?_⟩
    have h3 := insF_stb x (isortF L) k
    show (insF x (isortF L)).filter _ = _
    rw [h3, List.filter_cons, List.filter_cons, h2 k]
theorem sorted_isF {L Z : List PK} (s : Srt wP Z) (b : Stb wP L Z) : Z = isortF L :=
  srt_unique s (isortF_spec L).1 (fun k => ((isortF_spec L).2 k).trans (b k).symm)
def haveF (S : List PK) : Nat → List PK
  | 0 => []
  | j + 1 => isortF (S ++ pairP (haveF S j))
theorem have_isF {S : List PK} {j : Nat} {H : List PK} (h : HaveRel S j H) : H = haveF S j := by
  induction h with
  | zero => rfl
  | @succ j Y Z h hs hb ih =>
    subst ih
    exact sorted_isF hs hb
def lenF (l : List Int) (most : Int) : Int × List Int :=
  if ¬ (oftenS l = true ∧ 1 ≤ most ∧ most ≤ 15) then (2, [])
  else if 2 ^ most.toNat < (singL l l.length).length then (11, [])
  else match singL l l.length with
    | [] => (0, zerosL l)
    | [p] => (0, bumps (zerosL l) p.2)
    | s => (0, ((haveF (isortF s) most.toNat).take (2 * s.length - 2)).foldl (fun out p => bumps out p.2) (zerosL l))
theorem lenIs_isF {l : List Int} {most er : Int} {r : List Int} (h : LenIs l most er r) : (er, r) = lenF l most := by
  unfold lenF
  rcases h with ⟨h, rfl, rfl⟩ | ⟨hof, m, rfl, hm1, hm2, h⟩
  · rw [if_pos h]
  · rw [if_neg (by rw [Decidable.not_not]; exact ⟨hof, by omega, by omega⟩), Int.toNat_natCast]
    rcases h with ⟨h, rfl, rfl⟩ | ⟨hle, rfl, h⟩
    · rw [if_pos h]
    · rw [if_neg (by omega)]
      rcases h with ⟨e, rfl⟩ | ⟨x, j, hj, e, rfl⟩ | ⟨h2, S, hs, s1, s2, hh, hl, rfl⟩
      · rw [e]
      · rw [e]
        show _ = ((0 : Int), bump (zerosL l) (j : Int))
        unfold bump zerosL
        rw [Int.toNat_natCast, List.getD_eq_getElem?_getD, List.getElem?_replicate, if_pos hj]
        rfl
      · generalize singL l l.length = s at *
        obtain rfl := sorted_isF s1 s2
        obtain rfl := have_isF hh
        match s, h2 with
        | a :: b :: t, _ => rfl
end Go.Proofs.Ytdgpcjhincgijaa.Pr

-- YtdgpcjhincgijaaPg0
namespace Go.Proofs.Ytdgpcjhincgijaa.Pg
open Go.RowKit Go.Proofs.YtdgpcjhincgijaaW.PrintWords Go.Proofs.YtdgpcjhincgijaaW.PrintLast Go.Proofs.YtdgpcjhincgijaaW.PrintMore
attribute [local go_sem] max2_int min2_int max_two min_two max_three min_three max_four min_four   -- for this text's walks alone
set_option linter.unusedVariables false
set_option linter.unusedSimpArgs false

theorem u8_w (n : Int) : IntKind.u8.wrap n = n % 256 := IntKind.wrap_u8 n



def errW : Option Int → Value
  | none => .nilIface
  | some c => .iface 0 (.int .i64 c)
theorem errW_none : errW none = .nilIface := rfl
theorem errW_some (c : Int) : errW (some c) = .iface 0 (.int .i64 c) := rfl

theorem info3 : (Try.prog.info? 3).map (fun i => (i.zero, i.size, i.bytes)) = some (some (.int .i64 0), 1, 8) := by kernel_rfl
-- the values' own types
end Go.Proofs.Ytdgpcjhincgijaa.Pg

-- YtdgpcjhincgijaaLp3
namespace Go.Proofs.Ytdgpcjhincgijaa.Pg
open Go.RowKit Go.Proofs.YtdgpcjhincgijaaW.PrintWords Go.Proofs.YtdgpcjhincgijaaW.PrintLast Go.Proofs.YtdgpcjhincgijaaW.PrintMore
set_option linter.unusedVariables false
set_option linter.unusedSimpArgs false
/-! ### Plain: levels ta merges -/
abbrev PK := Int × List Int
open Pr (Srt Stb wP pairP isortF haveF insF sorted_isF isortF_spec srt_unique)
def mergeF : List PK → List PK → List PK
  | [], b => b
  | a :: ta, [] => a :: ta
  | a :: ta, b :: tb => if a.1 ≤ b.1 then a :: mergeF ta (b :: tb) else b :: mergeF (a :: ta) tb
termination_by a b => a.length + b.length
theorem mergeF_perm : ∀ a b : List PK, (mergeF a b).Perm (a ++ b)
  | [], b => by simp [mergeF]
  | a :: ta, [] => by simp [mergeF]
  | a :: ta, b :: tb => by
    rw [mergeF]
    split
    · exact (mergeF_perm ta (b :: tb)).cons a
    · exact ((mergeF_perm (a :: ta) tb).cons b).trans (List.perm_middle.symm)
termination_by a b => a.length + b.length
theorem mergeF_srt : ∀ a b : List PK, Srt wP a → Srt wP b → Srt wP (mergeF a b)
  | [], b, _, h => by simpa [mergeF] using h
  | a :: ta, [], h, _ => by simpa [mergeF] using h
  | a :: ta, b :: tb, h1, h2 => by
    obtain ⟨c1, d1⟩ := List.pairwise_cons.1 h1
    obtain ⟨c2, d2⟩ := List.pairwise_cons.1 h2
    rw [mergeF]
    split
    next hab =>
      refine List.pairwise_cons.2 ⟨fun x hx => ?_, mergeF_srt ta (b :: tb) d1 h2⟩
      rcases List.mem_append.1 ((mergeF_perm _ _).mem_iff.1 hx) with hx | hx
      · exact c1 x hx
      · rcases List.mem_cons.1 hx with rfl | hx
        · exact hab
        · exact Int.le_trans (show wP a ≤ wP b from hab) (c2 x hx)
    next hab =>
      refine List.pairwise_cons.2 ⟨fun x hx => ?_, mergeF_srt (a :: ta) tb h1 d2⟩
      have hba : wP b ≤ wP a := by unfold wP; omega
      rcases List.mem_append.1 ((mergeF_perm _ _).mem_iff.1 hx) with hx | hx
      · rcases List.mem_cons.1 hx with rfl | hx
        · exact hba
        · exact Int.le_trans hba (c1 x hx)
      · exact c2 x hx
termination_by a b => a.length + b.length
theorem mergeF_stb : ∀ a b : List PK, Srt wP a → Srt wP b → Stb wP (a ++ b) (mergeF a b)
  | [], b, _, _ => by simpa [mergeF] using Stb.refl b
  | a :: ta, [], _, _ => by simpa [mergeF] using Stb.refl (a :: ta)
  | a :: ta, b :: tb, h1, h2 => by
    obtain ⟨c1, d1⟩ := List.pairwise_cons.1 h1
    obtain ⟨c2, d2⟩ := List.pairwise_cons.1 h2
    intro k
    rw [mergeF]
    split
    next hab =>
      have ih := mergeF_stb ta (b :: tb) d1 h2 k
      rw [List.cons_append, List.filter_cons, List.filter_cons, ih]
    next hab =>
      have ih := mergeF_stb (a :: ta) tb h1 d2 k
      rw [List.filter_cons, ih, List.filter_append, List.filter_append, List.filter_cons (x := b)]
      by_cases hb : (wP b == k) = true
      · have hn : (a :: ta).filter (fun x => wP x == k) = [] := List.filter_eq_nil_iff.2 (fun x hx => by
          rw [beq_iff_eq] at hb ⊢
          have : wP a ≤ wP x := by
            rcases List.mem_cons.1 hx with rfl | hx
            · exact Int.le_refl _
            · exact c1 x hx
          unfold wP at this hb ⊢
          omega)
        rw [hn, if_pos hb, if_pos hb]
        rfl
      · rw [if_neg hb]
        simp [hb]
termination_by a b => a.length + b.length
theorem isort_merge {a b : List PK} (h1 : Srt wP a) (h2 : Srt wP b) : isortF (a ++ b) = mergeF a b :=
  (sorted_isF (mergeF_srt a b h1 h2) (mergeF_stb a b h1 h2)).symm
/-- What comes first in a merge: first ones of each. -/
theorem mergeF_take : ∀ (a b : List PK) (m : Nat), m ≤ a.length + b.length → Srt wP a → Srt wP b → ∃ s p, s ≤ a.length ∧ p ≤ b.length ∧ s + p = m ∧ ((mergeF a b).take m).Perm (a.take s ++ b.take p) ∧ (∀ x ∈ a.take s, ∀ y ∈ b.drop p, x.1 ≤ y.1) ∧ (∀ y ∈ b.take p, ∀ x ∈ a.drop s, y.1 < x.1)
  | _, _, 0, _, _, _ => ⟨0, 0, by omega, by omega, rfl, by simp, by simp, by simp⟩
  | [], b, m + 1, h, _, _ => ⟨0, m + 1, by simp, by simpa using h, by omega, by simp [mergeF], by simp, by simp⟩
  | a :: ta, [], m + 1, h, _, _ => ⟨m + 1, 0, by simpa using h, by simp, by omega, by simp [mergeF], by simp, by simp⟩
  | a :: ta, b :: tb, m + 1, h, h1, h2 => by
    obtain ⟨c1, d1⟩ := List.pairwise_cons.1 h1
    obtain ⟨c2, d2⟩ := List.pairwise_cons.1 h2
    rw [mergeF]
    split
    next hab =>
      obtain ⟨s, p, e1, e2, e3, e4, e5, e6⟩ := mergeF_take ta (b :: tb) m (by simp at h ⊢; omega) d1 h2
      refine ⟨s + 1, p, by simp; omega, e2, by omega, ?_, ?_, ?_⟩
      · rw [List.take_succ_cons, List.take_succ_cons, List.cons_append]
        exact e4.cons a
      · intro x hx y hy
        rw [List.take_succ_cons] at hx
        rcases List.mem_cons.1 hx with rfl | hx
        · rcases List.mem_cons.1 (List.mem_of_mem_drop hy) with rfl | hy
          · exact hab
          · exact Int.le_trans hab (c2 y hy)
        · exact e5 x hx y hy
      · intro y hy x hx
        rw [List.drop_succ_cons] at hx
        exact e6 y hy x hx
    next hab =>
      obtain ⟨s, p, e1, e2, e3, e4, e5, e6⟩ := mergeF_take (a :: ta) tb m (by simp at h ⊢; omega) h1 d2
      refine ⟨s, p + 1, e1, by simp; omega, by omega, ?_, ?_, ?_⟩
      · rw [List.take_succ_cons, List.take_succ_cons]
        exact (e4.cons b).trans List.perm_middle.symm
      · intro x hx y hy
        rw [List.drop_succ_cons] at hy
        exact e5 x hx y hy
      · intro y hy x hx
        rw [List.take_succ_cons] at hy
        rcases List.mem_cons.1 hy with rfl | hy
        · rcases List.mem_cons.1 (List.mem_of_mem_drop hx) with rfl | hx
          · omega
          · have : a.1 ≤ x.1 := c1 x hx
            omega
        · exact e6 y hy x hx
termination_by a b => a.length + b.length
/-! ### Plain: pairs, levels -/
theorem pairP_mem : ∀ {Y : List PK} {q : PK}, q ∈ pairP Y → ∃ x ∈ Y, ∃ y ∈ Y, q = (x.1 + y.1, x.2 ++ y.2)
  | [], q, h => by simp [pairP] at h
  | [_], q, h => by simp [pairP] at h
  | a :: b :: t, q, h => by
    rw [pairP] at h
    rcases List.mem_cons.1 h with rfl | h
    · exact ⟨a, by simp, b, by simp, rfl⟩
    · obtain ⟨x, hx, y, hy, e⟩ := pairP_mem h
      exact ⟨x, by simp [hx], y, by simp [hy], e⟩
theorem pairP_srt : ∀ {Y : List PK}, Srt wP Y → Srt wP (pairP Y)
  | [], _ => List.Pairwise.nil
  | [_], _ => by simp [pairP]; exact List.Pairwise.nil
  | a :: b :: t, h => by
    obtain ⟨c1, d1⟩ := List.pairwise_cons.1 h
    obtain ⟨c2, d2⟩ := List.pairwise_cons.1 d1
    rw [pairP]
    refine List.pairwise_cons.2 ⟨fun q hq => ?_, pairP_srt d2⟩
    obtain ⟨x, hx, y, hy, rfl⟩ := pairP_mem hq
    have h1 : a.1 ≤ x.1 := c1 x (by simp [hx])
    have h2 : b.1 ≤ y.1 := c2 y hy
    show a.1 + b.1 ≤ x.1 + y.1
    omega
theorem haveF_srt (S : List PK) : ∀ j, Srt wP (haveF S j)
  | 0 => List.Pairwise.nil
  | j + 1 => (isortF_spec _).1
theorem haveF_succ {S : List PK} (hS : Srt wP S) (j : Nat) : haveF S (j + 1) = mergeF S (pairP (haveF S j)) := isort_merge hS (pairP_srt (haveF_srt S j))
def sumF (φ : PK → Int) (L : List PK) : Int := (L.map φ).sum
def Adds (φ : PK → Int) : Prop := ∀ a b : PK, φ (a.1 + b.1, a.2 ++ b.2) = φ a + φ b
theorem sumF_perm {φ : PK → Int} {a b : List PK} (h : a.Perm b) : sumF φ a = sumF φ b := by
  induction h with
  | nil => rfl
  | cons x _ ih => simp only [sumF, List.map_cons, List.sum_cons] at ih ⊢; omega
  | swap x y l => simp only [sumF, List.map_cons, List.sum_cons]; omega
  | trans _ _ i1 i2 => exact i1.trans i2
theorem sumF_append (φ : PK → Int) (a b : List PK) : sumF φ (a ++ b) = sumF φ a + sumF φ b := by
  unfold sumF
  rw [List.map_append, List.sum_append]
theorem pair_take {φ : PK → Int} (hφ : Adds φ) : ∀ (p : Nat) (Y : List PK), p ≤ Y.length / 2 → sumF φ ((pairP Y).take p) = sumF φ (Y.take (2 * p))
  | 0, _, _ => by simp [sumF]
  | p + 1, [], h => by simp at h
  | p + 1, [_], h => by simp at h
  | p + 1, a :: b :: t, h => by
    have ih := pair_take hφ p t (by simp at h; omega)
    rw [pairP, List.take_succ_cons, show 2 * (p + 1) = 2 * p + 1 + 1 by omega, List.take_succ_cons, List.take_succ_cons]
    have e := hφ a b
    simp only [sumF, List.map_cons, List.sum_cons] at ih ⊢
    omega
/-! ### Plain: the row told counts symbols -/
open Pr (bump bumps zerosL)
def cnt (x : Int) (p : PK) : Int := (p.2.count x : Int)
theorem cnt_adds (x : Int) : Adds (cnt x) := fun a b => by
  unfold cnt
  show ((a.2 ++ b.2).count x : Int) = _
  rw [List.count_append]
  omega
theorem wP_adds : Adds wP := fun _ _ => rfl
theorem bump_getD {out : List Int} {s : Int} {i : Nat} (hs : 0 ≤ s) (hi : i < out.length) : (bump out s).getD i 0 = out.getD i 0 + (if s = (i : Int) then 1 else 0) := by
  unfold bump
  rw [List.getD_eq_getElem?_getD, List.getElem?_set]
  by_cases h : s.toNat = i
  · rw [if_pos h, if_pos (by omega), if_pos (by omega)]
    subst h
    rfl
  · rw [if_neg h, if_neg (by omega), List.getD_eq_getElem?_getD]
    omega
theorem bumps_getD : ∀ {r out : List Int} {i : Nat}, (∀ s ∈ r, 0 ≤ s) → i < out.length → (bumps out r).getD i 0 = out.getD i 0 + (r.count (i : Int) : Int)
  | [], out, i, _, _ => by simp [bumps]
  | s :: r, out, i, h, hi => by
    have h1 := bumps_getD (r := r) (out := bump out s) (i := i) (fun x hx => h x (by simp [hx])) (by rw [Pr.bump_len]; exact hi)
    show (bumps (bump out s) r).getD i 0 = _
    rw [h1, bump_getD (h s (by simp)) hi, List.count_cons]
    by_cases e : s = (i : Int)
    · rw [if_pos e, if_pos (by simpa using e)]
      omega
    · rw [if_neg e, if_neg (by simpa using e)]
      omega
theorem out_getD : ∀ {hs : List PK} {out : List Int} {i : Nat}, (∀ p ∈ hs, ∀ s ∈ p.2, 0 ≤ s) → i < out.length → (hs.foldl (fun out p => bumps out p.2) out).getD i 0 = out.getD i 0 + sumF (cnt (i : Int)) hs
  | [], out, i, _, _ => by simp [sumF]
  | p :: hs, out, i, h, hi => by
    have h1 := out_getD (hs := hs) (out := bumps out p.2) (i := i) (fun q hq => h q (by simp [hq])) (by rw [Pr.bumps_len]; exact hi)
    rw [List.foldl_cons, h1, bumps_getD (h p (by simp)) hi]
    simp only [sumF, List.map_cons, List.sum_cons, cnt]
    omega
theorem out_len : ∀ (hs : List PK) (out : List Int), (hs.foldl (fun out p => bumps out p.2) out).length = out.length
  | [], _ => rfl
  | p :: hs, out => by rw [List.foldl_cons, out_len hs, Pr.bumps_len]
/-! ### Plain: the singles -/
open Pr (singL singL_mem)
theorem insF_perm (x : PK) : ∀ Z, (insF x Z).Perm (x :: Z)
  | [] => .refl _
  | y :: t => by
    unfold insF
    split
    · exact .refl _
    · exact ((insF_perm x t).cons y).trans (.swap x y t)
theorem isortF_perm : ∀ L : List PK, (isortF L).Perm L
  | [] => .refl _
  | x :: L => (insF_perm x _).trans ((isortF_perm L).cons x)
theorem sumF_cnt (x : Int) : ∀ L : List PK, sumF (cnt x) L = ((L.flatMap Prod.snd).count x : Int)
  | [] => rfl
  | p :: L => by
    have ih := sumF_cnt x L
    rw [List.flatMap_cons, List.count_append]
    simp only [sumF, List.map_cons, List.sum_cons, cnt] at ih ⊢
    omega
theorem sing_syms (l : List Int) (k : Nat) : (singL l k).flatMap Prod.snd = ((List.range k).filter (fun j => decide (l.getD j 0 > 0))).map (fun (j : Nat) => (j : Int)) := by
  induction k with
  | zero => rfl
  | succ k ih =>
    rw [Pr.singL_succ, List.range_succ, List.filter_append, List.map_append, ← ih]
    by_cases h : l.getD k 0 > 0
    · rw [if_pos h, List.flatMap_append, List.filter_cons_of_pos (by simpa using h)]
      rfl
    · rw [if_neg h, List.filter_cons_of_neg (by simpa using h)]
      simp
theorem sing_nodup (l : List Int) (k : Nat) : ((singL l k).flatMap Prod.snd).Nodup := by
  rw [sing_syms]
  refine List.Pairwise.map (R := fun a b => a ≠ b) _ (fun a b h e => h (by omega)) ?_
  exact (List.nodup_range).filter _
theorem srt_sing_nodup (l : List Int) (k : Nat) : ((isortF (singL l k)).flatMap Prod.snd).Nodup :=
  (((isortF_perm (singL l k)).flatMap_right Prod.snd).nodup_iff).2 (sing_nodup l k)
theorem take_cnt_le (l : List Int) (k s : Nat) (x : Int) : sumF (cnt x) ((isortF (singL l k)).take s) ≤ 1 := by
  rw [sumF_cnt]
  have h := srt_sing_nodup l k
  have h2 : (((isortF (singL l k)).take s).flatMap Prod.snd).Nodup := by
    rw [← List.take_append_drop s (isortF (singL l k)), List.flatMap_append] at h
    exact (List.nodup_append.1 h).1
  have := List.nodup_iff_count.1 h2 x
  omega
theorem sing_at {l : List Int} {i : Nat} (hi : i < l.length) (h : 0 < l.getD i 0) : (l.getD i 0, [(i : Int)]) ∈ isortF (singL l l.length) := by
  rw [(isortF_perm _).mem_iff]
  unfold singL
  rw [List.mem_filter]
  exact ⟨List.mem_map.2 ⟨i, List.mem_range.2 hi, rfl⟩, by simpa using h⟩
theorem sing_of {l : List Int} {p : PK} (h : p ∈ isortF (singL l l.length)) : ∃ j : Nat, j < l.length ∧ p = (l.getD j 0, [(j : Int)]) ∧ l.getD j 0 > 0 := singL_mem ((isortF_perm _).mem_iff.1 h)
/-! ### Plain: LimitOrder -/
open Pr (lenF oftenS haveF isortF isortF_spec singL zerosL bumps)
theorem lenF_ok {l : List Int} {most : Int} {r : List Int} (h : lenF l most = (0, r)) : oftenS l = true ∧ ∃ m : Nat, most = (m : Int) ∧ 1 ≤ m ∧ m ≤ 15 ∧ (singL l l.length).length ≤ 2 ^ m ∧
    ((singL l l.length = [] ∧ r = zerosL l) ∨ (∃ p, singL l l.length = [p] ∧ r = bumps (zerosL l) p.2) ∨
     (2 ≤ (singL l l.length).length ∧ r = ((haveF (isortF (singL l l.length)) m).take (2 * (singL l l.length).length - 2)).foldl (fun out p => bumps out p.2) (zerosL l))) := by
  unfold lenF at h
  by_cases h0 : ¬ (oftenS l = true ∧ 1 ≤ most ∧ most ≤ 15)
  · rw [if_pos h0] at h
    injection h with h _
    omega
  · rw [if_neg h0] at h
    rw [Decidable.not_not] at h0
    obtain ⟨h1, h2, h3⟩ := h0
    obtain ⟨m, rfl⟩ : ∃ m : Nat, most = (m : Int) := ⟨most.toNat, by omega⟩
    rw [Int.toNat_natCast] at h
    by_cases h4 : 2 ^ m < (singL l l.length).length
    · rw [if_pos h4] at h
      injection h with h _
      omega
    · rw [if_neg h4] at h
      refine ⟨h1, m, rfl, by omega, by omega, by omega, ?_⟩
      generalize singL l l.length = s at *
      match s, h with
      | [], h => exact .inl ⟨rfl, by injection h with _ h; exact h.symm⟩
      | [p], h => exact .inr (.inl ⟨p, rfl, by injection h with _ h; exact h.symm⟩)
      | a :: b :: t, h => exact .inr (.inr ⟨by simp, by injection h with _ h; exact h.symm⟩)
theorem zeros_len (l : List Int) : (zerosL l).length = l.length := by unfold zerosL; rw [List.length_replicate]
theorem zeros_get (l : List Int) (i : Nat) : (zerosL l).getD i 0 = 0 := by
  unfold zerosL
  rw [List.getD_eq_getElem?_getD, List.getElem?_replicate]
  split <;> rfl
theorem lenF_len {l : List Int} {most : Int} {r : List Int} (h : lenF l most = (0, r)) : r.length = l.length := by
  obtain ⟨_, m, _, _, _, _, h | ⟨p, _, h⟩ | ⟨_, h⟩⟩ := lenF_ok h
  · rw [h.2, zeros_len]
  · rw [h, Pr.bumps_len, zeros_len]
  · rw [h, out_len, zeros_len]
theorem have_syms (l : List Int) (j : Nat) : ∀ p ∈ haveF (isortF (singL l l.length)) j, ∀ s ∈ p.2, 0 ≤ s := by
  induction j with
  | zero => intro p hp; cases hp
  | succ j ih =>
    intro p hp s hs
    have hp2 := (isortF_perm _).mem_iff.1 hp
    rcases List.mem_append.1 hp2 with hp2 | hp2
    · obtain ⟨k, _, rfl, _⟩ := sing_of hp2
      have := List.mem_singleton.1 hs
      omega
    · obtain ⟨x, hx, y, hy, rfl⟩ := pairP_mem hp2
      rcases List.mem_append.1 hs with hs | hs
      · exact ih x hx s hs
      · exact ih y hy s hs
end Go.Proofs.Ytdgpcjhincgijaa.Pg

