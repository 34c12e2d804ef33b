-- A text by hand (wip/limit).
import Derived.RangeFuncNested
import Derived.RangeFuncBound
import Derived.RangeFuncCalls
import Derived.RangeFuncLeaves
import Derived.RangeFuncBox
import Derived.Shelf.Abstract
import Derived.Shelf.RegionOpen
import Derived.OwnWalkIn
import Derived.TacticsInMore
import Derived.LoopNIn
import Derived.LoopIn
import Derived.Test.YtdgpcjhincgijaaPr0
import Derived.Test.YtdgpcjhincgijaaLh4
namespace Go.Proofs.Ytdgpcjhincgijaa.Pr
open Go.RowKit Go.Shelf Go.Proofs.YtdgpcjhincgijaaW.PrintWords Go.Proofs.YtdgpcjhincgijaaW.PrintLast Go.Proofs.YtdgpcjhincgijaaW.PrintMore
set_option linter.unusedVariables false
set_option linter.unusedSimpArgs false
def checkS (zs : List Int) : Int := if (countedS zs).2 = false then 2 else if roomS (countedS zs).1 < 0 then 11 else if roomS (countedS zs).1 > 0 then 12 else 0
theorem countedS_len (zs : List Int) : (countedS zs).1.length = 16 := by
  unfold countedS
  split
  · rfl
  · split
    · exact cntL_len _
    · rfl
set_option maxRecDepth 100000 in
set_option maxHeartbeats 4000000 in
theorem huff_Check_in (A : Option Addr) (c : Nat) (l : List Int) (w : World) (hr : (Kd.int .i64).C w A l.length l) : Calls Try.prog 30 #[.slice A l.length c] w fun e w' => e = .returned (.int .i64 (checkS l)) ∧ Below w.heap.size w w' := by
  have hlen := countedS_len l
  have K := huff_counted.calls A c l w hr
  unfold CountedPost at K
  unfold checkS
  generalize countedS l = cs at hlen K ⊢
  obtain ⟨cl, ok⟩ := cs
  dsimp only at hlen K ⊢
  obtain ⟨x0, cl, rfl⟩ := List.exists_cons_of_length_pos (l := cl) (by omega)
  obtain ⟨x1, cl, rfl⟩ := List.exists_cons_of_length_pos (l := cl) (by simp only [List.length_cons] at hlen; omega)
  obtain ⟨x2, cl, rfl⟩ := List.exists_cons_of_length_pos (l := cl) (by simp only [List.length_cons] at hlen; omega)
  obtain ⟨x3, cl, rfl⟩ := List.exists_cons_of_length_pos (l := cl) (by simp only [List.length_cons] at hlen; omega)
  obtain ⟨x4, cl, rfl⟩ := List.exists_cons_of_length_pos (l := cl) (by simp only [List.length_cons] at hlen; omega)
  obtain ⟨x5, cl, rfl⟩ := List.exists_cons_of_length_pos (l := cl) (by simp only [List.length_cons] at hlen; omega)
  obtain ⟨x6, cl, rfl⟩ := List.exists_cons_of_length_pos (l := cl) (by simp only [List.length_cons] at hlen; omega)
  obtain ⟨x7, cl, rfl⟩ := List.exists_cons_of_length_pos (l := cl) (by simp only [List.length_cons] at hlen; omega)
  obtain ⟨x8, cl, rfl⟩ := List.exists_cons_of_length_pos (l := cl) (by simp only [List.length_cons] at hlen; omega)
  obtain ⟨x9, cl, rfl⟩ := List.exists_cons_of_length_pos (l := cl) (by simp only [List.length_cons] at hlen; omega)
  obtain ⟨x10, cl, rfl⟩ := List.exists_cons_of_length_pos (l := cl) (by simp only [List.length_cons] at hlen; omega)
  obtain ⟨x11, cl, rfl⟩ := List.exists_cons_of_length_pos (l := cl) (by simp only [List.length_cons] at hlen; omega)
  obtain ⟨x12, cl, rfl⟩ := List.exists_cons_of_length_pos (l := cl) (by simp only [List.length_cons] at hlen; omega)
  obtain ⟨x13, cl, rfl⟩ := List.exists_cons_of_length_pos (l := cl) (by simp only [List.length_cons] at hlen; omega)
  obtain ⟨x14, cl, rfl⟩ := List.exists_cons_of_length_pos (l := cl) (by simp only [List.length_cons] at hlen; omega)
  obtain ⟨x15, cl, rfl⟩ := List.exists_cons_of_length_pos (l := cl) (by simp only [List.length_cons] at hlen; omega)
  obtain rfl : cl = [] := List.eq_nil_of_length_eq_zero (by simp only [List.length_cons] at hlen; omega)
  have K2 := Aside0.mk K
  clear K hlen
  cases ok with
  | false =>
    go_enter Try.func30, Try.ntmps30
    go_wp2_with (first
        | (go_at_call 37; refine (K2.out).mono ?_; rintro e_ w3 ⟨rfl, hb⟩; have HB := Aside0.mk hb; clear hb; simp only [agg16, List.map_cons, List.map_nil])
        | ((with_reducible refine gate_dst (N := 3) rfl ?_); refine box_event ?hg (N := 3) ?hd (cs := #[.int .i64 0, .int .i64 0, .int .i64 0, .int .i64 0, .int .i64 0, .int .i64 0, .int .i64 0, .int .i64 0, .int .i64 0, .int .i64 0, .int .i64 0, .int .i64 0, .int .i64 0, .int .i64 0, .int .i64 0, .int .i64 0]) (t := 62) ?hr ?_; (case hd => rfl); (case hg => rfl); (case hr => first | (go_simp; done) | (go_simp; rfl)); intro g3 hg w4 hbox hb; have B3 := Aside0.mk hbox; have G3 := Aside0.mk (show w.heap.size ≤ g3 by rw [hg]; exact HB.out.size); have H4 := Aside0.mk (below_then HB.out HB.out.size hb); clear hg hbox hb; have hc0 : w4.cell? ⟨g3, 0, none⟩ = some (.int .i64 0) := (blk_cell B3.out 0).trans rfl; have hf0 := blk_frozen B3.out 0; have hc1 : w4.cell? ⟨g3, 1, none⟩ = some (.int .i64 0) := (blk_cell B3.out 1).trans rfl; have hf1 := blk_frozen B3.out 1; have hc2 : w4.cell? ⟨g3, 2, none⟩ = some (.int .i64 0) := (blk_cell B3.out 2).trans rfl; have hf2 := blk_frozen B3.out 2; have hc3 : w4.cell? ⟨g3, 3, none⟩ = some (.int .i64 0) := (blk_cell B3.out 3).trans rfl; have hf3 := blk_frozen B3.out 3; have hc4 : w4.cell? ⟨g3, 4, none⟩ = some (.int .i64 0) := (blk_cell B3.out 4).trans rfl; have hf4 := blk_frozen B3.out 4; have hc5 : w4.cell? ⟨g3, 5, none⟩ = some (.int .i64 0) := (blk_cell B3.out 5).trans rfl; have hf5 := blk_frozen B3.out 5; have hc6 : w4.cell? ⟨g3, 6, none⟩ = some (.int .i64 0) := (blk_cell B3.out 6).trans rfl; have hf6 := blk_frozen B3.out 6; have hc7 : w4.cell? ⟨g3, 7, none⟩ = some (.int .i64 0) := (blk_cell B3.out 7).trans rfl; have hf7 := blk_frozen B3.out 7; have hc8 : w4.cell? ⟨g3, 8, none⟩ = some (.int .i64 0) := (blk_cell B3.out 8).trans rfl; have hf8 := blk_frozen B3.out 8; have hc9 : w4.cell? ⟨g3, 9, none⟩ = some (.int .i64 0) := (blk_cell B3.out 9).trans rfl; have hf9 := blk_frozen B3.out 9; have hc10 : w4.cell? ⟨g3, 10, none⟩ = some (.int .i64 0) := (blk_cell B3.out 10).trans rfl; have hf10 := blk_frozen B3.out 10; have hc11 : w4.cell? ⟨g3, 11, none⟩ = some (.int .i64 0) := (blk_cell B3.out 11).trans rfl; have hf11 := blk_frozen B3.out 11; have hc12 : w4.cell? ⟨g3, 12, none⟩ = some (.int .i64 0) := (blk_cell B3.out 12).trans rfl; have hf12 := blk_frozen B3.out 12; have hc13 : w4.cell? ⟨g3, 13, none⟩ = some (.int .i64 0) := (blk_cell B3.out 13).trans rfl; have hf13 := blk_frozen B3.out 13; have hc14 : w4.cell? ⟨g3, 14, none⟩ = some (.int .i64 0) := (blk_cell B3.out 14).trans rfl; have hf14 := blk_frozen B3.out 14; have hc15 : w4.cell? ⟨g3, 15, none⟩ = some (.int .i64 0) := (blk_cell B3.out 15).trans rfl; have hf15 := blk_frozen B3.out 15)
        )
    go_ret
    exact ⟨rfl, set16_below H4.out G3.out _ _ _ _ _ _ _ _ _ _ _ _ _ _ _ _⟩
  | true =>
    obtain ⟨y, hy⟩ : ∃ y, roomS [x0, x1, x2, x3, x4, x5, x6, x7, x8, x9, x10, x11, x12, x13, x14, x15] = y := ⟨_, rfl⟩
    rw [hy]
    simp only [Bool.true_eq_false, if_false]
    by_cases h1 : y < 0
    · rw [if_pos h1]
      have q1 := eq_true h1
      go_enter Try.func30, Try.ntmps30
      go_wp2_with (first
          | (go_at_call 37; refine (K2.out).mono ?_; rintro e_ w3 ⟨rfl, hb⟩; have HB := Aside0.mk hb; clear hb; simp only [agg16, List.map_cons, List.map_nil])
          | ((with_reducible refine gate_dst (N := 3) rfl ?_); refine box_event ?hg (N := 3) ?hd (cs := #[.int .i64 0, .int .i64 0, .int .i64 0, .int .i64 0, .int .i64 0, .int .i64 0, .int .i64 0, .int .i64 0, .int .i64 0, .int .i64 0, .int .i64 0, .int .i64 0, .int .i64 0, .int .i64 0, .int .i64 0, .int .i64 0]) (t := 62) ?hr ?_; (case hd => rfl); (case hg => rfl); (case hr => first | (go_simp; done) | (go_simp; rfl)); intro g3 hg w4 hbox hb; have B3 := Aside0.mk hbox; have G3 := Aside0.mk (show w.heap.size ≤ g3 by rw [hg]; exact HB.out.size); have H4 := Aside0.mk (below_then HB.out HB.out.size hb); clear hg hbox hb; have hc0 : w4.cell? ⟨g3, 0, none⟩ = some (.int .i64 0) := (blk_cell B3.out 0).trans rfl; have hf0 := blk_frozen B3.out 0; have hc1 : w4.cell? ⟨g3, 1, none⟩ = some (.int .i64 0) := (blk_cell B3.out 1).trans rfl; have hf1 := blk_frozen B3.out 1; have hc2 : w4.cell? ⟨g3, 2, none⟩ = some (.int .i64 0) := (blk_cell B3.out 2).trans rfl; have hf2 := blk_frozen B3.out 2; have hc3 : w4.cell? ⟨g3, 3, none⟩ = some (.int .i64 0) := (blk_cell B3.out 3).trans rfl; have hf3 := blk_frozen B3.out 3; have hc4 : w4.cell? ⟨g3, 4, none⟩ = some (.int .i64 0) := (blk_cell B3.out 4).trans rfl; have hf4 := blk_frozen B3.out 4; have hc5 : w4.cell? ⟨g3, 5, none⟩ = some (.int .i64 0) := (blk_cell B3.out 5).trans rfl; have hf5 := blk_frozen B3.out 5; have hc6 : w4.cell? ⟨g3, 6, none⟩ = some (.int .i64 0) := (blk_cell B3.out 6).trans rfl; have hf6 := blk_frozen B3.out 6; have hc7 : w4.cell? ⟨g3, 7, none⟩ = some (.int .i64 0) := (blk_cell B3.out 7).trans rfl; have hf7 := blk_frozen B3.out 7; have hc8 : w4.cell? ⟨g3, 8, none⟩ = some (.int .i64 0) := (blk_cell B3.out 8).trans rfl; have hf8 := blk_frozen B3.out 8; have hc9 : w4.cell? ⟨g3, 9, none⟩ = some (.int .i64 0) := (blk_cell B3.out 9).trans rfl; have hf9 := blk_frozen B3.out 9; have hc10 : w4.cell? ⟨g3, 10, none⟩ = some (.int .i64 0) := (blk_cell B3.out 10).trans rfl; have hf10 := blk_frozen B3.out 10; have hc11 : w4.cell? ⟨g3, 11, none⟩ = some (.int .i64 0) := (blk_cell B3.out 11).trans rfl; have hf11 := blk_frozen B3.out 11; have hc12 : w4.cell? ⟨g3, 12, none⟩ = some (.int .i64 0) := (blk_cell B3.out 12).trans rfl; have hf12 := blk_frozen B3.out 12; have hc13 : w4.cell? ⟨g3, 13, none⟩ = some (.int .i64 0) := (blk_cell B3.out 13).trans rfl; have hf13 := blk_frozen B3.out 13; have hc14 : w4.cell? ⟨g3, 14, none⟩ = some (.int .i64 0) := (blk_cell B3.out 14).trans rfl; have hf14 := blk_frozen B3.out 14; have hc15 : w4.cell? ⟨g3, 15, none⟩ = some (.int .i64 0) := (blk_cell B3.out 15).trans rfl; have hf15 := blk_frozen B3.out 15)
          | (go_at_call 38; refine (room.calls g3 [x0, x1, x2, x3, x4, x5, x6, x7, x8, x9, x10, x11, x12, x13, x14, x15] rfl _ (set16 B3.out _ _ _ _ _ _ _ _ _ _ _ _ _ _ _ _)).mono ?_; rintro e_ w5 ⟨rfl, rfl⟩; rw [hy])
          )
      go_ret
      exact ⟨rfl, set16_below H4.out G3.out _ _ _ _ _ _ _ _ _ _ _ _ _ _ _ _⟩
    · rw [if_neg h1]
      by_cases h2 : y > 0
      · rw [if_pos h2]
        have q1 := eq_false h1
        have q2 := eq_true h2
        have q3 := eq_true (show 0 < y from h2)
        go_enter Try.func30, Try.ntmps30
        go_wp2_with (first
            | (go_at_call 37; refine (K2.out).mono ?_; rintro e_ w3 ⟨rfl, hb⟩; have HB := Aside0.mk hb; clear hb; simp only [agg16, List.map_cons, List.map_nil])
            | ((with_reducible refine gate_dst (N := 3) rfl ?_); refine box_event ?hg (N := 3) ?hd (cs := #[.int .i64 0, .int .i64 0, .int .i64 0, .int .i64 0, .int .i64 0, .int .i64 0, .int .i64 0, .int .i64 0, .int .i64 0, .int .i64 0, .int .i64 0, .int .i64 0, .int .i64 0, .int .i64 0, .int .i64 0, .int .i64 0]) (t := 62) ?hr ?_; (case hd => rfl); (case hg => rfl); (case hr => first | (go_simp; done) | (go_simp; rfl)); intro g3 hg w4 hbox hb; have B3 := Aside0.mk hbox; have G3 := Aside0.mk (show w.heap.size ≤ g3 by rw [hg]; exact HB.out.size); have H4 := Aside0.mk (below_then HB.out HB.out.size hb); clear hg hbox hb; have hc0 : w4.cell? ⟨g3, 0, none⟩ = some (.int .i64 0) := (blk_cell B3.out 0).trans rfl; have hf0 := blk_frozen B3.out 0; have hc1 : w4.cell? ⟨g3, 1, none⟩ = some (.int .i64 0) := (blk_cell B3.out 1).trans rfl; have hf1 := blk_frozen B3.out 1; have hc2 : w4.cell? ⟨g3, 2, none⟩ = some (.int .i64 0) := (blk_cell B3.out 2).trans rfl; have hf2 := blk_frozen B3.out 2; have hc3 : w4.cell? ⟨g3, 3, none⟩ = some (.int .i64 0) := (blk_cell B3.out 3).trans rfl; have hf3 := blk_frozen B3.out 3; have hc4 : w4.cell? ⟨g3, 4, none⟩ = some (.int .i64 0) := (blk_cell B3.out 4).trans rfl; have hf4 := blk_frozen B3.out 4; have hc5 : w4.cell? ⟨g3, 5, none⟩ = some (.int .i64 0) := (blk_cell B3.out 5).trans rfl; have hf5 := blk_frozen B3.out 5; have hc6 : w4.cell? ⟨g3, 6, none⟩ = some (.int .i64 0) := (blk_cell B3.out 6).trans rfl; have hf6 := blk_frozen B3.out 6; have hc7 : w4.cell? ⟨g3, 7, none⟩ = some (.int .i64 0) := (blk_cell B3.out 7).trans rfl; have hf7 := blk_frozen B3.out 7; have hc8 : w4.cell? ⟨g3, 8, none⟩ = some (.int .i64 0) := (blk_cell B3.out 8).trans rfl; have hf8 := blk_frozen B3.out 8; have hc9 : w4.cell? ⟨g3, 9, none⟩ = some (.int .i64 0) := (blk_cell B3.out 9).trans rfl; have hf9 := blk_frozen B3.out 9; have hc10 : w4.cell? ⟨g3, 10, none⟩ = some (.int .i64 0) := (blk_cell B3.out 10).trans rfl; have hf10 := blk_frozen B3.out 10; have hc11 : w4.cell? ⟨g3, 11, none⟩ = some (.int .i64 0) := (blk_cell B3.out 11).trans rfl; have hf11 := blk_frozen B3.out 11; have hc12 : w4.cell? ⟨g3, 12, none⟩ = some (.int .i64 0) := (blk_cell B3.out 12).trans rfl; have hf12 := blk_frozen B3.out 12; have hc13 : w4.cell? ⟨g3, 13, none⟩ = some (.int .i64 0) := (blk_cell B3.out 13).trans rfl; have hf13 := blk_frozen B3.out 13; have hc14 : w4.cell? ⟨g3, 14, none⟩ = some (.int .i64 0) := (blk_cell B3.out 14).trans rfl; have hf14 := blk_frozen B3.out 14; have hc15 : w4.cell? ⟨g3, 15, none⟩ = some (.int .i64 0) := (blk_cell B3.out 15).trans rfl; have hf15 := blk_frozen B3.out 15)
            | (go_at_call 38; refine (room.calls g3 [x0, x1, x2, x3, x4, x5, x6, x7, x8, x9, x10, x11, x12, x13, x14, x15] rfl _ (set16 B3.out _ _ _ _ _ _ _ _ _ _ _ _ _ _ _ _)).mono ?_; rintro e_ w5 ⟨rfl, rfl⟩; rw [hy])
            )
        go_ret
        exact ⟨rfl, set16_below H4.out G3.out _ _ _ _ _ _ _ _ _ _ _ _ _ _ _ _⟩
      · rw [if_neg h2]
        have q1 := eq_false h1
        have q2 := eq_false h2
        have q3 := eq_false (show ¬ 0 < y from h2)
        go_enter Try.func30, Try.ntmps30
        go_wp2_with (first
            | (go_at_call 37; refine (K2.out).mono ?_; rintro e_ w3 ⟨rfl, hb⟩; have HB := Aside0.mk hb; clear hb; simp only [agg16, List.map_cons, List.map_nil])
            | ((with_reducible refine gate_dst (N := 3) rfl ?_); refine box_event ?hg (N := 3) ?hd (cs := #[.int .i64 0, .int .i64 0, .int .i64 0, .int .i64 0, .int .i64 0, .int .i64 0, .int .i64 0, .int .i64 0, .int .i64 0, .int .i64 0, .int .i64 0, .int .i64 0, .int .i64 0, .int .i64 0, .int .i64 0, .int .i64 0]) (t := 62) ?hr ?_; (case hd => rfl); (case hg => rfl); (case hr => first | (go_simp; done) | (go_simp; rfl)); intro g3 hg w4 hbox hb; have B3 := Aside0.mk hbox; have G3 := Aside0.mk (show w.heap.size ≤ g3 by rw [hg]; exact HB.out.size); have H4 := Aside0.mk (below_then HB.out HB.out.size hb); clear hg hbox hb; have hc0 : w4.cell? ⟨g3, 0, none⟩ = some (.int .i64 0) := (blk_cell B3.out 0).trans rfl; have hf0 := blk_frozen B3.out 0; have hc1 : w4.cell? ⟨g3, 1, none⟩ = some (.int .i64 0) := (blk_cell B3.out 1).trans rfl; have hf1 := blk_frozen B3.out 1; have hc2 : w4.cell? ⟨g3, 2, none⟩ = some (.int .i64 0) := (blk_cell B3.out 2).trans rfl; have hf2 := blk_frozen B3.out 2; have hc3 : w4.cell? ⟨g3, 3, none⟩ = some (.int .i64 0) := (blk_cell B3.out 3).trans rfl; have hf3 := blk_frozen B3.out 3; have hc4 : w4.cell? ⟨g3, 4, none⟩ = some (.int .i64 0) := (blk_cell B3.out 4).trans rfl; have hf4 := blk_frozen B3.out 4; have hc5 : w4.cell? ⟨g3, 5, none⟩ = some (.int .i64 0) := (blk_cell B3.out 5).trans rfl; have hf5 := blk_frozen B3.out 5; have hc6 : w4.cell? ⟨g3, 6, none⟩ = some (.int .i64 0) := (blk_cell B3.out 6).trans rfl; have hf6 := blk_frozen B3.out 6; have hc7 : w4.cell? ⟨g3, 7, none⟩ = some (.int .i64 0) := (blk_cell B3.out 7).trans rfl; have hf7 := blk_frozen B3.out 7; have hc8 : w4.cell? ⟨g3, 8, none⟩ = some (.int .i64 0) := (blk_cell B3.out 8).trans rfl; have hf8 := blk_frozen B3.out 8; have hc9 : w4.cell? ⟨g3, 9, none⟩ = some (.int .i64 0) := (blk_cell B3.out 9).trans rfl; have hf9 := blk_frozen B3.out 9; have hc10 : w4.cell? ⟨g3, 10, none⟩ = some (.int .i64 0) := (blk_cell B3.out 10).trans rfl; have hf10 := blk_frozen B3.out 10; have hc11 : w4.cell? ⟨g3, 11, none⟩ = some (.int .i64 0) := (blk_cell B3.out 11).trans rfl; have hf11 := blk_frozen B3.out 11; have hc12 : w4.cell? ⟨g3, 12, none⟩ = some (.int .i64 0) := (blk_cell B3.out 12).trans rfl; have hf12 := blk_frozen B3.out 12; have hc13 : w4.cell? ⟨g3, 13, none⟩ = some (.int .i64 0) := (blk_cell B3.out 13).trans rfl; have hf13 := blk_frozen B3.out 13; have hc14 : w4.cell? ⟨g3, 14, none⟩ = some (.int .i64 0) := (blk_cell B3.out 14).trans rfl; have hf14 := blk_frozen B3.out 14; have hc15 : w4.cell? ⟨g3, 15, none⟩ = some (.int .i64 0) := (blk_cell B3.out 15).trans rfl; have hf15 := blk_frozen B3.out 15)
            | (go_at_call 38; refine (room.calls g3 [x0, x1, x2, x3, x4, x5, x6, x7, x8, x9, x10, x11, x12, x13, x14, x15] rfl _ (set16 B3.out _ _ _ _ _ _ _ _ _ _ _ _ _ _ _ _)).mono ?_; rintro e_ w5 ⟨rfl, rfl⟩; rw [hy])
            )
        go_ret
        exact ⟨rfl, set16_below H4.out G3.out _ _ _ _ _ _ _ _ _ _ _ _ _ _ _ _⟩
end Go.Proofs.Ytdgpcjhincgijaa.Pr
