-- A text by hand (wip/locks).
import Derived.RangeFuncNested
import Derived.RangeFuncBound
import Derived.RangeFuncCalls
import Derived.RangeFuncLeaves
import Derived.RangeFuncBox
import Derived.Shelf.Abstract
import Derived.Shelf.RegionOpen
import Derived.OwnWalkIn
import Derived.TacticsInMore
import Derived.LoopNIn
import Derived.LoopIn
import Derived.WalkSpells
import Derived.Test.YtdhabfjfpbdjfaaPr0
import Derived.Test.YtdhabfjfpbdjfaaLk14
namespace Go.Proofs.Ytdhabfjfpbdjfaa.Pr
open Go.RowKit Go.Shelf Go.Proofs.YtdhabfjfpbdjfaaW.PrintWords Go.Proofs.YtdhabfjfpbdjfaaW.PrintLast Go.Proofs.YtdhabfjfpbdjfaaW.PrintMore
set_option linter.unusedVariables false
set_option linter.unusedSimpArgs false
section
attribute [local go_sem] Oper.semAt_some
set_option maxHeartbeats 4000000 in
set_option maxRecDepth 100000 in
theorem Ask_nil (who : Int) (key : ByteArray) (wr : Bool) (w : World) : Calls Try.prog 13 #[.pointer none, .int .i64 who, .string key, .bool wr] w fun e w' => e = .returned (.tuple #[.bool false, .int .i64 1]) ∧ Below w.heap.size w w' := by
  go_enter Try.func13, Try.ntmps13
  go_wp2
  go_ret2
  exact ⟨rfl, below_alloc (Below.refl w.heap.size w) _⟩
set_option maxHeartbeats 4000000 in
set_option maxRecDepth 100000 in
theorem Ask_nomap (g : Nat) (who : Int) (key : ByteArray) (wr : Bool) (w : World) (h : w.heap[g]? = some (.cells #[.map none] 51 (0, 0))) : Calls Try.prog 13 #[.pointer (some ⟨g, 0, none⟩), .int .i64 who, .string key, .bool wr] w fun e w' => e = .returned (.tuple #[.bool false, .int .i64 1]) ∧ Below w.heap.size w w' := by
  have qMN : ∀ (w : World) (r : Option Nat), (binOp .eql 49 (.map r) (.map none)).run Try.prog w = .ok (.bool r.isNone) w := fun w r => run_eql_map_nil w _ _ _ r Try.underlying49
  have hc : (w.alloc (.cells #[.int .i64 who] 3 (0, 0))).cell? ⟨g, 0, none⟩ = some (.map none) := (blk_cell (blk_alloc h _) 0).trans rfl
  clear h
  go_enter Try.func13, Try.ntmps13
  go_wp2
  go_ret2
  exact ⟨rfl, below_alloc (Below.refl w.heap.size w) _⟩
set_option maxHeartbeats 4000000 in
set_option maxRecDepth 100000 in
theorem Free_nil (who : Int) (key : ByteArray) (w : World) : Calls Try.prog 12 #[.pointer none, .int .i64 who, .string key] w fun e w' => e = .returned (.tuple #[.slice none 0 0, .int .i64 1]) ∧ Below w.heap.size w w' := by
  go_enter Try.func12, Try.ntmps12
  go_wp2
  go_ret2
  exact ⟨rfl, below_alloc (Below.refl w.heap.size w) _⟩
set_option maxHeartbeats 4000000 in
set_option maxRecDepth 100000 in
theorem Free_nomap (g : Nat) (who : Int) (key : ByteArray) (w : World) (h : w.heap[g]? = some (.cells #[.map none] 51 (0, 0))) : Calls Try.prog 12 #[.pointer (some ⟨g, 0, none⟩), .int .i64 who, .string key] w fun e w' => e = .returned (.tuple #[.slice none 0 0, .int .i64 1]) ∧ Below w.heap.size w w' := by
  have qMN : ∀ (w : World) (r : Option Nat), (binOp .eql 49 (.map r) (.map none)).run Try.prog w = .ok (.bool r.isNone) w := fun w r => run_eql_map_nil w _ _ _ r Try.underlying49
  have hc : (w.alloc (.cells #[.int .i64 who] 3 (0, 0))).cell? ⟨g, 0, none⟩ = some (.map none) := (blk_cell (blk_alloc h _) 0).trans rfl
  clear h
  go_enter Try.func12, Try.ntmps12
  go_wp2
  go_ret2
  exact ⟨rfl, below_alloc (Below.refl w.heap.size w) _⟩
set_option maxHeartbeats 4000000 in
set_option maxRecDepth 100000 in
theorem Holds_nil (key : ByteArray) (w : World) : Calls Try.prog 17 #[.pointer none, .string key] w fun e w' => e = .returned (.tuple #[.slice none 0 0, .bool false]) ∧ Below w.heap.size w w' := by
  go_enter Try.func17, Try.ntmps17
  go_wp2
  go_ret2
  exact ⟨rfl, Below.refl _ _⟩
set_option maxHeartbeats 4000000 in
set_option maxRecDepth 100000 in
theorem Holds_nomap (g : Nat) (key : ByteArray) (w : World) (h : w.heap[g]? = some (.cells #[.map none] 51 (0, 0))) : Calls Try.prog 17 #[.pointer (some ⟨g, 0, none⟩), .string key] w fun e w' => e = .returned (.tuple #[.slice none 0 0, .bool false]) ∧ Below w.heap.size w w' := by
  have qMN : ∀ (w : World) (r : Option Nat), (binOp .eql 49 (.map r) (.map none)).run Try.prog w = .ok (.bool r.isNone) w := fun w r => run_eql_map_nil w _ _ _ r Try.underlying49
  have hc : w.cell? ⟨g, 0, none⟩ = some (.map none) := (blk_cell h 0).trans rfl
  have hlk := run_look_nil w key
  clear h
  go_enter Try.func17, Try.ntmps17
  go_wp2
  go_ret2
  exact ⟨rfl, Below.refl _ _⟩
set_option maxHeartbeats 4000000 in
set_option maxRecDepth 100000 in
theorem Waits_nil (key : ByteArray) (w : World) : Calls Try.prog 11 #[.pointer none, .string key] w fun e w' => e = .returned (.slice none 0 0) ∧ Below w.heap.size w w' := by
  go_enter Try.func11, Try.ntmps11
  go_wp2
  go_ret
  exact ⟨rfl, Below.refl _ _⟩
set_option maxHeartbeats 4000000 in
set_option maxRecDepth 100000 in
theorem Waits_nomap (g : Nat) (key : ByteArray) (w : World) (h : w.heap[g]? = some (.cells #[.map none] 51 (0, 0))) : Calls Try.prog 11 #[.pointer (some ⟨g, 0, none⟩), .string key] w fun e w' => e = .returned (.slice none 0 0) ∧ Below w.heap.size w w' := by
  have qMN : ∀ (w : World) (r : Option Nat), (binOp .eql 49 (.map r) (.map none)).run Try.prog w = .ok (.bool r.isNone) w := fun w r => run_eql_map_nil w _ _ _ r Try.underlying49
  have hc : w.cell? ⟨g, 0, none⟩ = some (.map none) := (blk_cell h 0).trans rfl
  have hlk := run_look_nil w key
  clear h
  go_enter Try.func11, Try.ntmps11
  go_wp2
  go_ret
  exact ⟨rfl, Below.refl _ _⟩
set_option maxHeartbeats 4000000 in
set_option maxRecDepth 100000 in
theorem LocksNil.walk (a0 : Int) (a1 : ByteArray) (a2 : Bool) (a3 : Bool) (w : World) (w0 : (Lit.int .i64 a0).wf = true) (w1 : a1.size ≤ 140737488351232) :
    Calls Try.prog 7 #[.int .i64 a0, .string a1, .bool a2, .bool a3] w fun e w' => e = .returned (.bool true) ∧ Below w.heap.size w w' := by
  cases a3 with
  | false =>
    have HB := Aside0.mk (Below.refl w.heap.size w)
    go_enter Try.func7, Try.ntmps7
    go_wp2_with (first
        | (go_at_call 13; refine (Ask_nil  a0 a1 a2 _).mono ?_; rintro e_ w2 ⟨rfl, hb⟩; have n0 := Aside0.mk (below_then HB.out HB.out.size hb); clear HB; have HB := n0; clear n0; clear hb)
        | (go_at_call 12; refine (Free_nil  a0 a1 _).mono ?_; rintro e_ w3 ⟨rfl, hb⟩; have n0 := Aside0.mk (below_then HB.out HB.out.size hb); clear HB; have HB := n0; clear n0; clear hb)
        | (go_at_call 17; refine (Holds_nil  a1 _).mono ?_; rintro e_ w4 ⟨rfl, hb⟩; have n0 := Aside0.mk (below_then HB.out HB.out.size hb); clear HB; have HB := n0; clear n0; clear hb)
        | (go_at_call 11; refine (Waits_nil  a1 _).mono ?_; rintro e_ w5 ⟨rfl, hb⟩; have n0 := Aside0.mk (below_then HB.out HB.out.size hb); clear HB; have HB := n0; clear n0; clear hb)
        | (go_at_call 10; refine (lives_calls _).mono ?_; rintro e_ w6 ⟨rfl, hb⟩; have n0 := Aside0.mk (below_then HB.out HB.out.size hb); clear HB; have HB := n0; clear n0; clear hb)
        )
    go_ret
    exact ⟨rfl, HB.out⟩
  | true =>
    have HB := Aside0.mk (below_alloc (Below.refl w.heap.size w) (.cells #[.map none] 51 (0, 0)))
    have NB := Aside0.mk (blk_new w (.cells #[.map none] 51 (0, 0)))
    go_enter Try.func7, Try.ntmps7
    go_wp2_with (first
        | (go_at_call 13; refine (Ask_nomap w.heap.size a0 a1 a2 _ NB.out).mono ?_; rintro e_ w2 ⟨rfl, hb⟩; have n0 := Aside0.mk (below_then HB.out HB.out.size hb); have n1 := Aside0.mk (blk_below NB.out hb); clear HB NB; have HB := n0; have NB := n1; clear n0 n1; clear hb)
        | (go_at_call 12; refine (Free_nomap w.heap.size a0 a1 _ NB.out).mono ?_; rintro e_ w3 ⟨rfl, hb⟩; have n0 := Aside0.mk (below_then HB.out HB.out.size hb); have n1 := Aside0.mk (blk_below NB.out hb); clear HB NB; have HB := n0; have NB := n1; clear n0 n1; clear hb)
        | (go_at_call 17; refine (Holds_nomap w.heap.size a1 _ NB.out).mono ?_; rintro e_ w4 ⟨rfl, hb⟩; have n0 := Aside0.mk (below_then HB.out HB.out.size hb); have n1 := Aside0.mk (blk_below NB.out hb); clear HB NB; have HB := n0; have NB := n1; clear n0 n1; clear hb)
        | (go_at_call 11; refine (Waits_nomap w.heap.size a1 _ NB.out).mono ?_; rintro e_ w5 ⟨rfl, hb⟩; have n0 := Aside0.mk (below_then HB.out HB.out.size hb); have n1 := Aside0.mk (blk_below NB.out hb); clear HB NB; have HB := n0; have NB := n1; clear n0 n1; clear hb)
        | (go_at_call 10; refine (lives_calls _).mono ?_; rintro e_ w6 ⟨rfl, hb⟩; have n0 := Aside0.mk (below_then HB.out HB.out.size hb); have n1 := Aside0.mk (blk_below NB.out hb); clear HB NB; have HB := n0; have NB := n1; clear n0 n1; clear hb)
        )
    go_ret
    exact ⟨rfl, HB.out⟩
end
end Go.Proofs.Ytdhabfjfpbdjfaa.Pr
