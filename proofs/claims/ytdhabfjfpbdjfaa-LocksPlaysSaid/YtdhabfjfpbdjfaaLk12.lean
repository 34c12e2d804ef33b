-- A text by hand (wip/locks).
import Derived.RangeFuncNested
import Derived.RangeFuncBound
import Derived.RangeFuncCalls
import Derived.RangeFuncLeaves
import Derived.RangeFuncBox
import Derived.Shelf.Abstract
import Derived.Shelf.RegionOpen
import Derived.OwnWalkIn
import Derived.TacticsInMore
import Derived.LoopNIn
import Derived.LoopIn
import Derived.WalkSpells
import Derived.Test.YtdhabfjfpbdjfaaPr0
import Derived.Test.YtdhabfjfpbdjfaaLk11
import Derived.Test.YtdhabfjfpbdjfaaPr1
namespace Go.Proofs.Ytdhabfjfpbdjfaa.Pr
open Go.RowKit Go.Shelf Go.Proofs.YtdhabfjfpbdjfaaW.PrintWords Go.Proofs.YtdhabfjfpbdjfaaW.PrintLast Go.Proofs.YtdhabfjfpbdjfaaW.PrintMore
set_option linter.unusedVariables false
set_option linter.unusedSimpArgs false

theorem client_yes {who : Int} (h : okC who) : locks_client.f who = some true := by
  unfold locks_client.f
  rw [if_pos h.1, decide_eq_true h.2]
theorem client_no {who : Int} (h : ¬ okC who) : locks_client.f who = some false := by
  unfold locks_client.f
  by_cases h0 : who ≥ 0
  · rw [if_pos h0, decide_eq_false (fun h1 => h ⟨h0, h1⟩)]
  · rw [if_neg h0]
def zeroR (key : ByteArray) (clk g : Nat) : LRec := ⟨key, clk, g, .slice none 0 0, .slice none 0 0, [], []⟩
theorem putObj_kept (W : World) (B : Nat) (o : Obj) : Kept W (W.putObj B o) (fun k => k = B) := ⟨by simp [World.putObj], fun i _ hne => World.putObj_heap_other (fun e => hne e)⟩
theorem putObj_new (W : World) {B : Nat} (hB : B < W.heap.size) (o : Obj) : (W.putObj B o).heap[B]? = some o := by simp [World.putObj, hB]
section
attribute [local go_sem] Oper.semAt_some
set_option maxRecDepth 100000 in
set_option maxHeartbeats 8000000 in
theorem Ask_bad [Obs] (gl : Nat) (who : Int) (key : ByteArray) (wr : Bool) (B clk : Nat) (S : List LRec) (w0 w : World) (hA : LockAt w w0.heap.size gl B clk S) (hB : Below w0.heap.size w0 w) (hs : SmallP (S.map projR)) (hcli : ¬ okC who)  :
    Calls Try.prog 13 #[.pointer (some ⟨gl, 0, none⟩), .int .i64 who, .string key, .bool wr] w fun e w' => e = .returned (.tuple #[.bool false, .int .i64 2]) ∧ LocksAt w' w0.heap.size gl (S.map projR) ∧ Below w0.heap.size w0 w' := by
  have HCL := Aside0.mk (show w.cell? ⟨gl, 0, none⟩ = some (.map (some B)) from (blk_cell hA.1 0).trans rfl)
  have HB0 := Aside0.mk hB
  have HA := Aside0.mk hA
  have qMN : ∀ (w : World) (r : Option Nat), (binOp .eql 49 (.map r) (.map none)).run Try.prog w = .ok (.bool r.isNone) w := fun w r => run_eql_map_nil w _ _ _ r Try.underlying49
  have HW := Aside0.mk (below_alloc (Below.refl w.heap.size w) (.cells #[.int .i64 who] 3 (0, 0)))
  have G5 := Aside0.mk (show (w.alloc (.cells #[.int .i64 who] 3 (0, 0))).heap[w.heap.size]? = some (cellW who) from blk_new w _)
  have hclw1 : (w.alloc (.cells #[.int .i64 who] 3 (0, 0))).cell? ⟨gl, 0, none⟩ = some (.map (some B)) := pw_cell_below HW.out HCL.out
  have hg5w1 : (w.alloc (.cells #[.int .i64 who] 3 (0, 0))).cell? ⟨w.heap.size, 0, none⟩ = some (.int .i64 who) := (blk_cell G5.out 0).trans rfl
  have HCLI := Aside0.mk (client_no hcli)
  clear hA hB hs hcli
  go_enter Try.func13, Try.ntmps13
  go_wp2_with (first
        | (go_at_call 21; refine (locks_client.calls who false _ HCLI.out).mono ?_; rintro e_ w2 ⟨rfl, hd⟩; have hb := hd.below; clear hd; have n0 := Aside0.mk (below_then HW.out HW.out.size hb); have n1 := Aside0.mk (blk_below G5.out hb); clear HW G5; have HW := n0; have G5 := n1; clear n0 n1; clear hb; clear hclw1 hg5w1)
        )
  go_ret2
  exact ⟨rfl, ⟨B, clk, S, HA.out.below HW.out, rfl⟩, below_then HB0.out HB0.out.size HW.out⟩
theorem look_ptr {key : ByteArray} {r : LRec} {S2 : List LRec} (hr : r.key = key) : ∀ {S1 : List LRec}, (∀ s ∈ S1, s.key ≠ key) → lookV key (S1 ++ r :: S2) = .pointer (some ⟨r.g, 0, none⟩) := fun {S1} h => by
  have : ∀ (T : List LRec) (i : Nat), (∀ s ∈ T, s.key ≠ key) → ∃ j, findE key (T ++ r :: S2) i = some (j, .pointer (some ⟨r.g, 0, none⟩)) := by
    intro T
    induction T with
    | nil => intro i _; exact ⟨i, by rw [List.nil_append, findE, if_pos hr.symm]⟩
    | cons s T ih =>
      intro i h
      obtain ⟨j, hj⟩ := ih (i + 1) (fun s hs => h s (by simp [hs]))
      exact ⟨j, by rw [List.cons_append, findE, if_neg (fun e => h s (by simp) e.symm), hj]⟩
  obtain ⟨j, hj⟩ := this S1 0 h
  unfold lookV
  rw [hj]
set_option maxRecDepth 100000 in
set_option maxHeartbeats 8000000 in
theorem Ask_busyh [Obs] (gl : Nat) (who : Int) (key : ByteArray) (wr : Bool) (B clk : Nat) (S : List LRec) (w0 w : World) (hA : LockAt w w0.heap.size gl B clk S) (hB : Below w0.heap.size w0 w) (hs : SmallP (S.map projR)) (hcli : okC who) (S1 S2 : List LRec) (r : LRec) (hS : S = S1 ++ r :: S2) (hk : r.key = key) (hn : ∀ s ∈ S1, s.key ≠ key) (hh : hasF r.h who = true) :
    Calls Try.prog 13 #[.pointer (some ⟨gl, 0, none⟩), .int .i64 who, .string key, .bool wr] w fun e w' => e = .returned (.tuple #[.bool false, .int .i64 18]) ∧ LocksAt w' w0.heap.size gl (S.map projR) ∧ Below w0.heap.size w0 w' := by
  subst hS
  have HCL := Aside0.mk (show w.cell? ⟨gl, 0, none⟩ = some (.map (some B)) from (blk_cell hA.1 0).trans rfl)
  have HB0 := Aside0.mk hB
  have HA := Aside0.mk hA
  have qMN : ∀ (w : World) (r : Option Nat), (binOp .eql 49 (.map r) (.map none)).run Try.prog w = .ok (.bool r.isNone) w := fun w r => run_eql_map_nil w _ _ _ r Try.underlying49
  have HW := Aside0.mk (below_alloc (Below.refl w.heap.size w) (.cells #[.int .i64 who] 3 (0, 0)))
  have G5 := Aside0.mk (show (w.alloc (.cells #[.int .i64 who] 3 (0, 0))).heap[w.heap.size]? = some (cellW who) from blk_new w _)
  have hclw1 : (w.alloc (.cells #[.int .i64 who] 3 (0, 0))).cell? ⟨gl, 0, none⟩ = some (.map (some B)) := pw_cell_below HW.out HCL.out
  have hg5w1 : (w.alloc (.cells #[.int .i64 who] 3 (0, 0))).cell? ⟨w.heap.size, 0, none⟩ = some (.int .i64 who) := (blk_cell G5.out 0).trans rfl
  have HCLI := Aside0.mk (client_yes hcli)
  have HR := Aside0.mk (hA.2.2.2.2.1 r (by simp))
  have hsm := hs (projR r) (List.mem_map.2 ⟨r, by simp, rfl⟩)
  have HLH := Aside0.mk (show r.h.length ≤ 1048576 by have := hsm.1; unfold projR at this; dsimp only at this; omega)
  have HLW := Aside0.mk (show r.w.length ≤ 1048576 by have := hsm.2; unfold projR at this; dsimp only at this; omega)
  have HLK := Aside0.mk (fun (W : World) (hb : Below w.heap.size w W) => (show (Instr.lookup 49 (.map (some B)) (.string key) false).run Try.prog W = .ok (.pointer (some ⟨r.g, 0, none⟩)) W from by
    have h1 := run_look W key (hA.below hb).2.2.1
    have h2 := look_ptr hk hn (S2 := S2)
    rw [h2] at h1
    exact h1))
  have HK := Aside0.mk hk
  have HN := Aside0.mk hn
  clear hA hB hs hcli hsm hk hn
  go_enter Try.func13, Try.ntmps13
  go_upto_region 9 with (first
        | (go_at_call 21; refine (locks_client.calls who true _ HCLI.out).mono ?_; rintro e_ w2 ⟨rfl, hd⟩; have hb := hd.below; clear hd; have n0 := Aside0.mk (below_then HW.out HW.out.size hb); have n1 := Aside0.mk (blk_below G5.out hb); clear HW G5; have HW := n0; have G5 := n1; clear n0 n1; clear hb; clear hclw1 hg5w1; have hclw2 := pw_cell_below HW.out HCL.out; have hg5w2 : w2.cell? ⟨w.heap.size, 0, none⟩ = some (.int .i64 who) := (blk_cell G5.out 0).trans rfl; have hlk := HLK.out _ HW.out)
        )
  clear hclw2 hg5w2
  clear hlk
  have n0 := Aside0.mk (HA.out.below HW.out)
  have n1 := Aside0.mk (HR.out.below HW.out)
  have n2 := Aside0.mk (below_then HB0.out HB0.out.size HW.out)
  clear HA HR
  have HA := n0
  have HR := n1
  have HBW := n2
  clear n0 n1 n2
  clear HW HLK HCL
  go_wp2_with (first
        | ((go_at_call 23); (with_reducible refine (has_ask1_h HR.out w.heap.size who HLH.out G5.out).mono ?_); rintro e_ w6 ⟨rfl, hb⟩; have n0 := Aside0.mk (below_then HBW.out HBW.out.size hb); have n1 := Aside0.mk (HA.out.below hb); have n2 := Aside0.mk (HR.out.below hb); have n3 := Aside0.mk (blk_below G5.out hb); clear HBW HA HR G5; have HBW := n0; have HA := n1; have HR := n2; have G5 := n3; clear n0 n1 n2 n3; clear hb)
        )
  go_ret2
  exact ⟨rfl, ⟨B, clk, _, HA.out, rfl⟩, HBW.out⟩
set_option maxRecDepth 100000 in
set_option maxHeartbeats 8000000 in
theorem Ask_busyw [Obs] (gl : Nat) (who : Int) (key : ByteArray) (wr : Bool) (B clk : Nat) (S : List LRec) (w0 w : World) (hA : LockAt w w0.heap.size gl B clk S) (hB : Below w0.heap.size w0 w) (hs : SmallP (S.map projR)) (hcli : okC who) (S1 S2 : List LRec) (r : LRec) (hS : S = S1 ++ r :: S2) (hk : r.key = key) (hn : ∀ s ∈ S1, s.key ≠ key) (hh : hasF r.h who = false) (hw : hasF r.w who = true) :
    Calls Try.prog 13 #[.pointer (some ⟨gl, 0, none⟩), .int .i64 who, .string key, .bool wr] w fun e w' => e = .returned (.tuple #[.bool false, .int .i64 18]) ∧ LocksAt w' w0.heap.size gl (S.map projR) ∧ Below w0.heap.size w0 w' := by
  subst hS
  have HCL := Aside0.mk (show w.cell? ⟨gl, 0, none⟩ = some (.map (some B)) from (blk_cell hA.1 0).trans rfl)
  have HB0 := Aside0.mk hB
  have HA := Aside0.mk hA
  have qMN : ∀ (w : World) (r : Option Nat), (binOp .eql 49 (.map r) (.map none)).run Try.prog w = .ok (.bool r.isNone) w := fun w r => run_eql_map_nil w _ _ _ r Try.underlying49
  have HW := Aside0.mk (below_alloc (Below.refl w.heap.size w) (.cells #[.int .i64 who] 3 (0, 0)))
  have G5 := Aside0.mk (show (w.alloc (.cells #[.int .i64 who] 3 (0, 0))).heap[w.heap.size]? = some (cellW who) from blk_new w _)
  have hclw1 : (w.alloc (.cells #[.int .i64 who] 3 (0, 0))).cell? ⟨gl, 0, none⟩ = some (.map (some B)) := pw_cell_below HW.out HCL.out
  have hg5w1 : (w.alloc (.cells #[.int .i64 who] 3 (0, 0))).cell? ⟨w.heap.size, 0, none⟩ = some (.int .i64 who) := (blk_cell G5.out 0).trans rfl
  have HCLI := Aside0.mk (client_yes hcli)
  have HR := Aside0.mk (hA.2.2.2.2.1 r (by simp))
  have hsm := hs (projR r) (List.mem_map.2 ⟨r, by simp, rfl⟩)
  have HLH := Aside0.mk (show r.h.length ≤ 1048576 by have := hsm.1; unfold projR at this; dsimp only at this; omega)
  have HLW := Aside0.mk (show r.w.length ≤ 1048576 by have := hsm.2; unfold projR at this; dsimp only at this; omega)
  have HLK := Aside0.mk (fun (W : World) (hb : Below w.heap.size w W) => (show (Instr.lookup 49 (.map (some B)) (.string key) false).run Try.prog W = .ok (.pointer (some ⟨r.g, 0, none⟩)) W from by
    have h1 := run_look W key (hA.below hb).2.2.1
    have h2 := look_ptr hk hn (S2 := S2)
    rw [h2] at h1
    exact h1))
  have HK := Aside0.mk hk
  have HN := Aside0.mk hn
  clear hA hB hs hcli hsm hk hn
  go_enter Try.func13, Try.ntmps13
  go_upto_region 9 with (first
        | (go_at_call 21; refine (locks_client.calls who true _ HCLI.out).mono ?_; rintro e_ w2 ⟨rfl, hd⟩; have hb := hd.below; clear hd; have n0 := Aside0.mk (below_then HW.out HW.out.size hb); have n1 := Aside0.mk (blk_below G5.out hb); clear HW G5; have HW := n0; have G5 := n1; clear n0 n1; clear hb; clear hclw1 hg5w1; have hclw2 := pw_cell_below HW.out HCL.out; have hg5w2 : w2.cell? ⟨w.heap.size, 0, none⟩ = some (.int .i64 who) := (blk_cell G5.out 0).trans rfl; have hlk := HLK.out _ HW.out)
        )
  clear hclw2 hg5w2
  clear hlk
  have n0 := Aside0.mk (HA.out.below HW.out)
  have n1 := Aside0.mk (HR.out.below HW.out)
  have n2 := Aside0.mk (below_then HB0.out HB0.out.size HW.out)
  clear HA HR
  have HA := n0
  have HR := n1
  have HBW := n2
  clear n0 n1 n2
  clear HW HLK HCL
  go_wp2_with (first
        | ((go_at_call 23); (with_reducible refine (has_ask1_h HR.out w.heap.size who HLH.out G5.out).mono ?_); rintro e_ w6 ⟨rfl, hb⟩; have n0 := Aside0.mk (below_then HBW.out HBW.out.size hb); have n1 := Aside0.mk (HA.out.below hb); have n2 := Aside0.mk (HR.out.below hb); have n3 := Aside0.mk (blk_below G5.out hb); clear HBW HA HR G5; have HBW := n0; have HA := n1; have HR := n2; have G5 := n3; clear n0 n1 n2 n3; clear hb)
        | ((go_at_call 23); (with_reducible refine (has_ask1_w HR.out w.heap.size who HLW.out G5.out).mono ?_); rintro e_ w7 ⟨rfl, hb⟩; have n0 := Aside0.mk (below_then HBW.out HBW.out.size hb); have n1 := Aside0.mk (HA.out.below hb); have n2 := Aside0.mk (HR.out.below hb); have n3 := Aside0.mk (blk_below G5.out hb); clear HBW HA HR G5; have HBW := n0; have HA := n1; have HR := n2; have G5 := n3; clear n0 n1 n2 n3; clear hb; have hg57 : w7.cell? ⟨w.heap.size, 0, none⟩ = some (.int .i64 who) := (blk_cell G5.out 0).trans rfl)
        )
  go_ret2
  exact ⟨rfl, ⟨B, clk, _, HA.out, rfl⟩, HBW.out⟩
set_option maxRecDepth 100000 in
set_option maxHeartbeats 8000000 in
theorem Ask_holds [Obs] (gl : Nat) (who : Int) (key : ByteArray) (wr : Bool) (B clk : Nat) (S : List LRec) (w0 w : World) (hA : LockAt w w0.heap.size gl B clk S) (hB : Below w0.heap.size w0 w) (hs : SmallP (S.map projR)) (hcli : okC who) (S1 S2 : List LRec) (r : LRec) (hS : S = S1 ++ r :: S2) (hk : r.key = key) (hn : ∀ s ∈ S1, s.key ≠ key) (hh : hasF r.h who = false) (hw : hasF r.w who = false) (he : r.w.length = 0) (hm : mayF r.h wr = true) :
    Calls Try.prog 13 #[.pointer (some ⟨gl, 0, none⟩), .int .i64 who, .string key, .bool wr] w fun e w' => e = .returned (.tuple #[.bool true, .int .i64 0]) ∧ LocksAt w' w0.heap.size gl (setP key (r.h ++ [⟨who, wr⟩], r.w) (S.map projR)) ∧ Below w0.heap.size w0 w' := by
  subst hS
  have HCL := Aside0.mk (show w.cell? ⟨gl, 0, none⟩ = some (.map (some B)) from (blk_cell hA.1 0).trans rfl)
  have HB0 := Aside0.mk hB
  have HA := Aside0.mk hA
  have qMN : ∀ (w : World) (r : Option Nat), (binOp .eql 49 (.map r) (.map none)).run Try.prog w = .ok (.bool r.isNone) w := fun w r => run_eql_map_nil w _ _ _ r Try.underlying49
  have HW := Aside0.mk (below_alloc (Below.refl w.heap.size w) (.cells #[.int .i64 who] 3 (0, 0)))
  have G5 := Aside0.mk (show (w.alloc (.cells #[.int .i64 who] 3 (0, 0))).heap[w.heap.size]? = some (cellW who) from blk_new w _)
  have hclw1 : (w.alloc (.cells #[.int .i64 who] 3 (0, 0))).cell? ⟨gl, 0, none⟩ = some (.map (some B)) := pw_cell_below HW.out HCL.out
  have hg5w1 : (w.alloc (.cells #[.int .i64 who] 3 (0, 0))).cell? ⟨w.heap.size, 0, none⟩ = some (.int .i64 who) := (blk_cell G5.out 0).trans rfl
  have HCLI := Aside0.mk (client_yes hcli)
  have HR := Aside0.mk (hA.2.2.2.2.1 r (by simp))
  have hsm := hs (projR r) (List.mem_map.2 ⟨r, by simp, rfl⟩)
  have HLH := Aside0.mk (show r.h.length ≤ 1048576 by have := hsm.1; unfold projR at this; dsimp only at this; omega)
  have HLW := Aside0.mk (show r.w.length ≤ 1048576 by have := hsm.2; unfold projR at this; dsimp only at this; omega)
  have HLK := Aside0.mk (fun (W : World) (hb : Below w.heap.size w W) => (show (Instr.lookup 49 (.map (some B)) (.string key) false).run Try.prog W = .ok (.pointer (some ⟨r.g, 0, none⟩)) W from by
    have h1 := run_look W key (hA.below hb).2.2.1
    have h2 := look_ptr hk hn (S2 := S2)
    rw [h2] at h1
    exact h1))
  have HK := Aside0.mk hk
  have HN := Aside0.mk hn
  clear hA hB hs hcli hsm hk hn
  go_enter Try.func13, Try.ntmps13
  go_upto_region 9 with (first
        | (go_at_call 21; refine (locks_client.calls who true _ HCLI.out).mono ?_; rintro e_ w2 ⟨rfl, hd⟩; have hb := hd.below; clear hd; have n0 := Aside0.mk (below_then HW.out HW.out.size hb); have n1 := Aside0.mk (blk_below G5.out hb); clear HW G5; have HW := n0; have G5 := n1; clear n0 n1; clear hb; clear hclw1 hg5w1; have hclw2 := pw_cell_below HW.out HCL.out; have hg5w2 : w2.cell? ⟨w.heap.size, 0, none⟩ = some (.int .i64 who) := (blk_cell G5.out 0).trans rfl; have hlk := HLK.out _ HW.out)
        )
  clear hclw2 hg5w2
  clear hlk
  have n0 := Aside0.mk (HA.out.below HW.out)
  have n1 := Aside0.mk (HR.out.below HW.out)
  have n2 := Aside0.mk (below_then HB0.out HB0.out.size HW.out)
  clear HA HR
  have HA := n0
  have HR := n1
  have HBW := n2
  clear n0 n1 n2
  clear HW HLK HCL
  go_upto_region 13 with (first
        | ((go_at_call 23); (with_reducible refine (has_ask1_h HR.out w.heap.size who HLH.out G5.out).mono ?_); rintro e_ w6 ⟨rfl, hb⟩; have n0 := Aside0.mk (below_then HBW.out HBW.out.size hb); have n1 := Aside0.mk (HA.out.below hb); have n2 := Aside0.mk (HR.out.below hb); have n3 := Aside0.mk (blk_below G5.out hb); clear HBW HA HR G5; have HBW := n0; have HA := n1; have HR := n2; have G5 := n3; clear n0 n1 n2 n3; clear hb)
        | ((go_at_call 23); (with_reducible refine (has_ask1_w HR.out w.heap.size who HLW.out G5.out).mono ?_); rintro e_ w7 ⟨rfl, hb⟩; have n0 := Aside0.mk (below_then HBW.out HBW.out.size hb); have n1 := Aside0.mk (HA.out.below hb); have n2 := Aside0.mk (HR.out.below hb); have n3 := Aside0.mk (blk_below G5.out hb); clear HBW HA HR G5; have HBW := n0; have HA := n1; have HR := n2; have G5 := n3; clear n0 n1 n2 n3; clear hb; have hg57 : w7.cell? ⟨w.heap.size, 0, none⟩ = some (.int .i64 who) := (blk_cell G5.out 0).trans rfl)
        )
  clear hg57
  have hb := below_alloc (Below.refl w7.heap.size w7) (.cells #[.int .i64 who, .bool wr] 63 (0, 0))
  have B12 := Aside0.mk (blk_new w7 (.cells #[.int .i64 who, .bool wr] 63 (0, 0)))
  obtain ⟨g12, hg12⟩ : ∃ g12, w7.heap.size = g12 := ⟨_, rfl⟩
  rw [hg12] at B12 ⊢
  have n0 := Aside0.mk (below_then HBW.out HBW.out.size hb)
  have n1 := Aside0.mk (HA.out.below hb)
  have n2 := Aside0.mk (HR.out.below hb)
  have n3 := Aside0.mk (blk_below G5.out hb)
  clear HBW HA HR G5
  have HBW := n0
  have HA := n1
  have HR := n2
  have G5 := n3
  clear n0 n1 n2 n3
  clear hb hg12
  generalize (w7.alloc (.cells #[.int .i64 who, .bool wr] 63 (0, 0))) = w8 at HBW HA HR G5 B12 ⊢
  obtain ⟨A1, c1, ew, hlw, hcw, hbw, hqw, _⟩ := HR.out.waits_
  clear hlw hcw hbw
  go_wp2_with (first
        | (go_at_call 25; refine (may_r HR.out wr).mono ?_; rintro e_ w9 ⟨rfl, hw9⟩; have hw9 := hw9.symm; subst hw9)
        )
  have hb := below_drew1 (Below.refl w8.heap.size w8)
  have n0 := Aside0.mk (below_then HBW.out HBW.out.size hb)
  have n1 := Aside0.mk (HA.out.below hb)
  have n2 := Aside0.mk (HR.out.below hb)
  have n3 := Aside0.mk (blk_below G5.out hb)
  have n4 := Aside0.mk (blk_drew B12.out)
  clear HBW HA HR G5 B12
  have HBW := n0
  have HA := n1
  have HR := n2
  have G5 := n3
  have B12 := n4
  clear n0 n1 n2 n3 n4
  clear hb hqw
  obtain ⟨A, c, eh, hlh, hch, hbh, hqh, _⟩ := HR.out.holds_
  have HQ := Aside0.mk hqh
  have HO := Aside0.mk HR.out.2.2.1
  rw [eh] at HO
  have EH := Aside0.mk eh
  clear eh hlh hch hbh hqh
  have HBD := Aside0.mk (Below.refl w8.drew.heap.size w8.drew)
  refine start_ (n := 13) (S := fun w' => w'.cell? ⟨r.g, 0, none⟩ = some (.slice A r.h.length c) ∧ w'.cell? ⟨g12, 0, none⟩ = some (.int .i64 who) ∧ w'.cell? ⟨g12, 1, none⟩ = some (.bool wr)) (ds := [8, 12]) #[false, false, false, false, false, false, false, false, false, false, false, false, false] (by kernel_rfl) rfl rfl ⟨HQ.out, (blk_cell B12.out 0).trans rfl, (blk_cell B12.out 1).trans rfl⟩ (fun hHeld => ?_)
  generalize w8.drew = wd at HBW HA HR G5 B12 HQ HO HBD hHeld ⊢
  refine pure_ (i := 0) (N := some 71) (v := ?_) (a' := ?_) #[true, false, false, false, false, false, false, false, false, false, false, false, false] rfl rfl (by kernel_rfl) (fun _ _ _ h => h) (Or.inl ⟨by rfl, ?_⟩) ?_ ?_
  rotate_left
  · intro w'
    go_simp
    with_reducible rfl
  rotate_left
  · simp only [Act.put, List.setIfInBounds_toArray, List.set_cons_zero, List.set_cons_succ, i64_w, i32_w, u8_w]
    rfl
  refine pure_ (i := 1) (N := some 72) (v := ?_) (a' := ?_) #[true, true, false, false, false, false, false, false, false, false, false, false, false] rfl rfl (by kernel_rfl) (fun _ _ _ h => h) (Or.inl ⟨by rfl, ?_⟩) ?_ ?_
  rotate_left
  · intro w'
    go_simp
    with_reducible rfl
  rotate_left
  · simp only [Act.put, List.setIfInBounds_toArray, List.set_cons_zero, List.set_cons_succ, i64_w, i32_w, u8_w]
    rfl
  refine pure_ (i := 2) (N := some 73) (v := ?_) (a' := ?_) #[true, true, true, false, false, false, false, false, false, false, false, false, false] rfl rfl (by kernel_rfl) (fun _ _ _ h => h) (Or.inl ⟨by rfl, ?_⟩) ?_ ?_
  rotate_left
  · intro w'
    go_simp
    with_reducible rfl
  rotate_left
  · simp only [Act.put, List.setIfInBounds_toArray, List.set_cons_zero, List.set_cons_succ, i64_w, i32_w, u8_w]
    rfl
  refine pure_ (i := 3) (N := some 74) (v := ?_) (a' := ?_) #[true, true, true, true, false, false, false, false, false, false, false, false, false] rfl rfl (by kernel_rfl) (fun _ _ _ h => h) (Or.inl ⟨by rfl, ?_⟩) ?_ ?_
  rotate_left
  · intro w'
    go_simp
    with_reducible rfl
  rotate_left
  · simp only [Act.put, List.setIfInBounds_toArray, List.set_cons_zero, List.set_cons_succ, i64_w, i32_w, u8_w]
    rfl
  refine pure_ (i := 4) (N := some 75) (v := ?_) (a' := ?_) #[true, true, true, true, true, false, false, false, false, false, false, false, false] rfl rfl (by kernel_rfl) (fun _ _ _ h => h) (Or.inl ⟨by rfl, ?_⟩) ?_ ?_
  rotate_left
  · intro w'
    go_simp
    with_reducible rfl
  rotate_left
  · simp only [Act.put, List.setIfInBounds_toArray, List.set_cons_zero, List.set_cons_succ, i64_w, i32_w, u8_w]
    rfl
  refine take_ (i := 5) (N := some 76) (v := ?_) (a' := ?_) #[true, true, true, true, true, true, false, false, false, false, false, false, false] rfl rfl (by kernel_rfl) (fun _ _ _ h => h) (Or.inl ⟨by rfl, ?_⟩) hHeld ?_ ?_
  rotate_left
  · rintro w' ⟨s0, s1, s2⟩
    go_simp
    with_reducible rfl
  rotate_left
  · simp only [Act.put, List.setIfInBounds_toArray, List.set_cons_zero, List.set_cons_succ, i64_w, i32_w, u8_w]
    rfl
  refine take_ (i := 6) (N := some 77) (v := ?_) (a' := ?_) #[true, true, true, true, true, true, true, false, false, false, false, false, false] rfl rfl (by kernel_rfl) (fun _ _ _ h => h) (Or.inl ⟨by rfl, ?_⟩) hHeld ?_ ?_
  rotate_left
  · rintro w' ⟨s0, s1, s2⟩
    go_simp
    with_reducible rfl
  rotate_left
  · simp only [Act.put, List.setIfInBounds_toArray, List.set_cons_zero, List.set_cons_succ, i64_w, i32_w, u8_w]
    rfl
  refine one_ (i := 7) (N := some 78) #[true, true, true, true, true, true, true, true, false, false, false, false, false] rfl rfl (by kernel_rfl) (by decide) (fun K hK => ?_)
  refine Kd.R_lit_step k63 _ 63 ?hg (N := 78) ?hd (xs := ([⟨who, wr⟩] : List S63)) (inner := [.int .i64 who, .bool wr]) (ok := fun _ => True) (okp := fun _ => True) ?hr ?hp (fun _ hk => hk) trivial (Below.refl _ _) (Nat.le_refl _) (by simp) ?_; (case hd => rfl); (case hg => rfl); (case hr => first | (go_simp; done) | (go_simp; rfl)); (case hp => exact (Reps.snoc (Reps.none _ _) (k63_mkM _ _ _ ⟨who, wr⟩) rfl))
  intro v78 w10 ho hb hg_ hnew_
  obtain ⟨A78, c78, e78⟩ := Kd.R_slice ho
  subst e78
  have n0 := Aside0.mk ((Kd.R_reads' ho).2.2)
  have n1 := Aside0.mk (below_then HBD.out HBD.out.size hb)
  have n2 := Aside0.mk (Kd.R_below HO.out hb)
  have n3 := Aside0.mk (below_then HBW.out HBW.out.size hb)
  have n4 := Aside0.mk (pw_cell_below hb HQ.out)
  have n5 := Aside0.mk (blk_below B12.out hb)
  clear HBD HO HBW HQ B12
  have HL1 := n0
  have HBD := n1
  have HO := n2
  have HBW := n3
  have HQ := n4
  have B12 := n5
  clear n0 n1 n2 n3 n4 n5
  clear ho hb hg_ hnew_
  refine hK.out _ _ ⟨HQ.out, (blk_cell B12.out 0).trans rfl, (blk_cell B12.out 1).trans rfl⟩ (fun hHeld => ?_)
  clear hK K
  refine norm_ (a' := ?_) ?_ ?_
  rotate_left
  · show Act.put _ (some 78) _ = _
    simp only [Act.put, List.setIfInBounds_toArray, List.set_cons_zero, List.set_cons_succ, i64_w, i32_w, u8_w]
    rfl
  refine last_ (i := 8) (N := some 79) #[true, true, true, true, true, true, true, true, true, false, false, false, false] rfl rfl (by kernel_rfl) (by decide) (fun K hK => ?_)
  refine Kd.R_append_rows_step k63 (w0 := w0) w0.heap.size (by rfl) (.tmp 76) (.tmp 78) 56 63 (.agg #[.int .i64 0, .bool false]) 16 rfl Try.underlying56 info63 rfl (by decide) (by omega) (.slice A r.h.length c) r.h ([⟨who, wr⟩] : List S63) _ _ _ (fun _ => True) (fun _ => False) rfl rfl HO.out HL1.out (fun _ _ h => h) (fun _ h => h.elim) (fun _ _ => trivial) HBW.out HBW.out.size ?aL ?_
  (case aL => have := HLH.out; simp; omega)
  intro v1 w11 ho hb hg hat
  obtain ⟨ys, hys⟩ : ∃ ys, r.h ++ [(⟨who, wr⟩ : S63)] = ys := ⟨_, rfl⟩
  rw [hys] at ho
  have HYS := Aside0.mk hys
  clear hys
  obtain ⟨A9, c9, e9⟩ := Kd.R_slice ho
  subst e9
  have hqz : w11.heap[r.g]? = some (.cells #[r.vh, r.vw] 60 (0, 0)) := blk_grown (blk_below HR.out.1 HBD.out) hg (by rw [← EH.out]; exact Kd.R_ne HR.out.2.2.1 HR.out.1 (by decide))
  rw [← EH.out] at hg hat
  have HS := Aside0.mk (HR.out.setH HBD.out ho hg hat)
  have HZ := Aside0.mk hqz
  have HB11 := Aside0.mk hb
  clear hqz ho hg hat hb
  refine hK.out _ _ ?_
  clear hK K
  refine norm_ (a' := ?_) ?_ ?_
  rotate_left
  · show Act.put _ (some 79) _ = _
    simp only [Act.put, List.setIfInBounds_toArray, List.set_cons_zero, List.set_cons_succ, i64_w, i32_w, u8_w]
    rfl
  refine pure_ (i := 9) (N := some 80) (v := ?_) (a' := ?_) #[true, true, true, true, true, true, true, true, true, true, false, false, false] rfl rfl (by kernel_rfl) (fun _ _ _ h => h) (Or.inl ⟨by rfl, ?_⟩) ?_ ?_
  rotate_left
  · intro w'
    go_simp
    with_reducible rfl
  rotate_left
  · simp only [Act.put, List.setIfInBounds_toArray, List.set_cons_zero, List.set_cons_succ, i64_w, i32_w, u8_w]
    rfl
  refine pure_ (i := 10) (N := some 81) (v := ?_) (a' := ?_) #[true, true, true, true, true, true, true, true, true, true, true, false, false] rfl rfl (by kernel_rfl) (fun _ _ _ h => h) (Or.inl ⟨by rfl, ?_⟩) ?_ ?_
  rotate_left
  · intro w'
    go_simp
    with_reducible rfl
  rotate_left
  · simp only [Act.put, List.setIfInBounds_toArray, List.set_cons_zero, List.set_cons_succ, i64_w, i32_w, u8_w]
    rfl
  refine pure_ (i := 11) (N := some 82) (v := ?_) (a' := ?_) #[true, true, true, true, true, true, true, true, true, true, true, true, false] rfl rfl (by kernel_rfl) (fun _ _ _ h => h) (Or.inl ⟨by rfl, ?_⟩) ?_ ?_
  rotate_left
  · intro w'
    go_simp
    with_reducible rfl
  rotate_left
  · simp only [Act.put, List.setIfInBounds_toArray, List.set_cons_zero, List.set_cons_succ, i64_w, i32_w, u8_w]
    rfl
  refine last_ (i := 12) (N := none) #[true, true, true, true, true, true, true, true, true, true, true, true, true] rfl rfl (by kernel_rfl) (by decide) (fun K hK => ?_)
  have hz0 : w11.cell? ⟨r.g, 0, none⟩ = some (r.vh) := (blk_cell HZ.out 0).trans rfl
  have hf0 := blk_frozen HZ.out 0
  refine skip_ (w1 := ?_) (by rfl) rfl ?_ ?_
  rotate_left
  · go_simp
    rfl
  refine hK.out _ _ ?_
  clear hK K
  refine done_ (by kernel_rfl) ?_
  go_wp2
  go_ret2
  obtain ⟨u1, u2, u3⟩ := HS.out
  exact ⟨rfl, ⟨B, clk, _, HA.out.upd u2 u1 rfl rfl rfl u3, by rw [HYS.out]; exact (set_some (r' := r.setH _ ys) HK.out HK.out HN.out).symm⟩, HB11.out.setCell (p := ⟨r.g, 0, none⟩) HR.out.2.1 _⟩
set_option maxRecDepth 100000 in
set_option maxHeartbeats 8000000 in
theorem Ask_waits [Obs] (gl : Nat) (who : Int) (key : ByteArray) (wr : Bool) (B clk : Nat) (S : List LRec) (w0 w : World) (hA : LockAt w w0.heap.size gl B clk S) (hB : Below w0.heap.size w0 w) (hs : SmallP (S.map projR)) (hcli : okC who) (S1 S2 : List LRec) (r : LRec) (hS : S = S1 ++ r :: S2) (hk : r.key = key) (hn : ∀ s ∈ S1, s.key ≠ key) (hh : hasF r.h who = false) (hw : hasF r.w who = false) (he : ¬ r.w.length = 0) :
    Calls Try.prog 13 #[.pointer (some ⟨gl, 0, none⟩), .int .i64 who, .string key, .bool wr] w fun e w' => e = .returned (.tuple #[.bool false, .int .i64 0]) ∧ LocksAt w' w0.heap.size gl (setP key (r.h, r.w ++ [⟨who, wr⟩]) (S.map projR)) ∧ Below w0.heap.size w0 w' := by
  subst hS
  have HCL := Aside0.mk (show w.cell? ⟨gl, 0, none⟩ = some (.map (some B)) from (blk_cell hA.1 0).trans rfl)
  have HB0 := Aside0.mk hB
  have HA := Aside0.mk hA
  have qMN : ∀ (w : World) (r : Option Nat), (binOp .eql 49 (.map r) (.map none)).run Try.prog w = .ok (.bool r.isNone) w := fun w r => run_eql_map_nil w _ _ _ r Try.underlying49
  have HW := Aside0.mk (below_alloc (Below.refl w.heap.size w) (.cells #[.int .i64 who] 3 (0, 0)))
  have G5 := Aside0.mk (show (w.alloc (.cells #[.int .i64 who] 3 (0, 0))).heap[w.heap.size]? = some (cellW who) from blk_new w _)
  have hclw1 : (w.alloc (.cells #[.int .i64 who] 3 (0, 0))).cell? ⟨gl, 0, none⟩ = some (.map (some B)) := pw_cell_below HW.out HCL.out
  have hg5w1 : (w.alloc (.cells #[.int .i64 who] 3 (0, 0))).cell? ⟨w.heap.size, 0, none⟩ = some (.int .i64 who) := (blk_cell G5.out 0).trans rfl
  have HCLI := Aside0.mk (client_yes hcli)
  have HR := Aside0.mk (hA.2.2.2.2.1 r (by simp))
  have hsm := hs (projR r) (List.mem_map.2 ⟨r, by simp, rfl⟩)
  have HLH := Aside0.mk (show r.h.length ≤ 1048576 by have := hsm.1; unfold projR at this; dsimp only at this; omega)
  have HLW := Aside0.mk (show r.w.length ≤ 1048576 by have := hsm.2; unfold projR at this; dsimp only at this; omega)
  have HLK := Aside0.mk (fun (W : World) (hb : Below w.heap.size w W) => (show (Instr.lookup 49 (.map (some B)) (.string key) false).run Try.prog W = .ok (.pointer (some ⟨r.g, 0, none⟩)) W from by
    have h1 := run_look W key (hA.below hb).2.2.1
    have h2 := look_ptr hk hn (S2 := S2)
    rw [h2] at h1
    exact h1))
  have HK := Aside0.mk hk
  have HN := Aside0.mk hn
  clear hA hB hs hcli hsm hk hn
  go_enter Try.func13, Try.ntmps13
  go_upto_region 9 with (first
        | (go_at_call 21; refine (locks_client.calls who true _ HCLI.out).mono ?_; rintro e_ w2 ⟨rfl, hd⟩; have hb := hd.below; clear hd; have n0 := Aside0.mk (below_then HW.out HW.out.size hb); have n1 := Aside0.mk (blk_below G5.out hb); clear HW G5; have HW := n0; have G5 := n1; clear n0 n1; clear hb; clear hclw1 hg5w1; have hclw2 := pw_cell_below HW.out HCL.out; have hg5w2 : w2.cell? ⟨w.heap.size, 0, none⟩ = some (.int .i64 who) := (blk_cell G5.out 0).trans rfl; have hlk := HLK.out _ HW.out)
        )
  clear hclw2 hg5w2
  clear hlk
  have n0 := Aside0.mk (HA.out.below HW.out)
  have n1 := Aside0.mk (HR.out.below HW.out)
  have n2 := Aside0.mk (below_then HB0.out HB0.out.size HW.out)
  clear HA HR
  have HA := n0
  have HR := n1
  have HBW := n2
  clear n0 n1 n2
  clear HW HLK HCL
  go_upto_region 13 with (first
        | ((go_at_call 23); (with_reducible refine (has_ask1_h HR.out w.heap.size who HLH.out G5.out).mono ?_); rintro e_ w6 ⟨rfl, hb⟩; have n0 := Aside0.mk (below_then HBW.out HBW.out.size hb); have n1 := Aside0.mk (HA.out.below hb); have n2 := Aside0.mk (HR.out.below hb); have n3 := Aside0.mk (blk_below G5.out hb); clear HBW HA HR G5; have HBW := n0; have HA := n1; have HR := n2; have G5 := n3; clear n0 n1 n2 n3; clear hb)
        | ((go_at_call 23); (with_reducible refine (has_ask1_w HR.out w.heap.size who HLW.out G5.out).mono ?_); rintro e_ w7 ⟨rfl, hb⟩; have n0 := Aside0.mk (below_then HBW.out HBW.out.size hb); have n1 := Aside0.mk (HA.out.below hb); have n2 := Aside0.mk (HR.out.below hb); have n3 := Aside0.mk (blk_below G5.out hb); clear HBW HA HR G5; have HBW := n0; have HA := n1; have HR := n2; have G5 := n3; clear n0 n1 n2 n3; clear hb; have hg57 : w7.cell? ⟨w.heap.size, 0, none⟩ = some (.int .i64 who) := (blk_cell G5.out 0).trans rfl)
        )
  clear hg57
  have hb := below_alloc (Below.refl w7.heap.size w7) (.cells #[.int .i64 who, .bool wr] 63 (0, 0))
  have B12 := Aside0.mk (blk_new w7 (.cells #[.int .i64 who, .bool wr] 63 (0, 0)))
  obtain ⟨g12, hg12⟩ : ∃ g12, w7.heap.size = g12 := ⟨_, rfl⟩
  rw [hg12] at B12 ⊢
  have n0 := Aside0.mk (below_then HBW.out HBW.out.size hb)
  have n1 := Aside0.mk (HA.out.below hb)
  have n2 := Aside0.mk (HR.out.below hb)
  have n3 := Aside0.mk (blk_below G5.out hb)
  clear HBW HA HR G5
  have HBW := n0
  have HA := n1
  have HR := n2
  have G5 := n3
  clear n0 n1 n2 n3
  clear hb hg12
  generalize (w7.alloc (.cells #[.int .i64 who, .bool wr] 63 (0, 0))) = w8 at HBW HA HR G5 B12 ⊢
  obtain ⟨A1, c1, ew, hlw, hcw, hbw, hqw, _⟩ := HR.out.waits_
  clear hlw hcw hbw
  go_wp2
  have hb := below_drew1 (Below.refl w8.heap.size w8)
  have n0 := Aside0.mk (below_then HBW.out HBW.out.size hb)
  have n1 := Aside0.mk (HA.out.below hb)
  have n2 := Aside0.mk (HR.out.below hb)
  have n3 := Aside0.mk (blk_below G5.out hb)
  have n4 := Aside0.mk (blk_drew B12.out)
  clear HBW HA HR G5 B12
  have HBW := n0
  have HA := n1
  have HR := n2
  have G5 := n3
  have B12 := n4
  clear n0 n1 n2 n3 n4
  clear hb hqw
  obtain ⟨A, c, ew2, hlw, hcw, hbw, hqw, _⟩ := HR.out.waits_
  have HQ := Aside0.mk hqw
  have HO := Aside0.mk HR.out.2.2.2.1
  rw [ew2] at HO
  have EH := Aside0.mk ew2
  clear ew2 hlw hcw hbw hqw
  have HBD := Aside0.mk (Below.refl w8.drew.heap.size w8.drew)
  refine start_ (n := 13) (S := fun w' => w'.cell? ⟨r.g, 1, none⟩ = some (.slice A r.w.length c) ∧ w'.cell? ⟨g12, 0, none⟩ = some (.int .i64 who) ∧ w'.cell? ⟨g12, 1, none⟩ = some (.bool wr)) (ds := [8, 12]) #[false, false, false, false, false, false, false, false, false, false, false, false, false] (by kernel_rfl) rfl rfl ⟨HQ.out, (blk_cell B12.out 0).trans rfl, (blk_cell B12.out 1).trans rfl⟩ (fun hHeld => ?_)
  generalize w8.drew = wd at HBW HA HR G5 B12 HQ HO HBD hHeld ⊢
  refine pure_ (i := 0) (N := some 83) (v := ?_) (a' := ?_) #[true, false, false, false, false, false, false, false, false, false, false, false, false] rfl rfl (by kernel_rfl) (fun _ _ _ h => h) (Or.inl ⟨by rfl, ?_⟩) ?_ ?_
  rotate_left
  · intro w'
    go_simp
    with_reducible rfl
  rotate_left
  · simp only [Act.put, List.setIfInBounds_toArray, List.set_cons_zero, List.set_cons_succ, i64_w, i32_w, u8_w]
    rfl
  refine pure_ (i := 1) (N := some 84) (v := ?_) (a' := ?_) #[true, true, false, false, false, false, false, false, false, false, false, false, false] rfl rfl (by kernel_rfl) (fun _ _ _ h => h) (Or.inl ⟨by rfl, ?_⟩) ?_ ?_
  rotate_left
  · intro w'
    go_simp
    with_reducible rfl
  rotate_left
  · simp only [Act.put, List.setIfInBounds_toArray, List.set_cons_zero, List.set_cons_succ, i64_w, i32_w, u8_w]
    rfl
  refine pure_ (i := 2) (N := some 85) (v := ?_) (a' := ?_) #[true, true, true, false, false, false, false, false, false, false, false, false, false] rfl rfl (by kernel_rfl) (fun _ _ _ h => h) (Or.inl ⟨by rfl, ?_⟩) ?_ ?_
  rotate_left
  · intro w'
    go_simp
    with_reducible rfl
  rotate_left
  · simp only [Act.put, List.setIfInBounds_toArray, List.set_cons_zero, List.set_cons_succ, i64_w, i32_w, u8_w]
    rfl
  refine pure_ (i := 3) (N := some 86) (v := ?_) (a' := ?_) #[true, true, true, true, false, false, false, false, false, false, false, false, false] rfl rfl (by kernel_rfl) (fun _ _ _ h => h) (Or.inl ⟨by rfl, ?_⟩) ?_ ?_
  rotate_left
  · intro w'
    go_simp
    with_reducible rfl
  rotate_left
  · simp only [Act.put, List.setIfInBounds_toArray, List.set_cons_zero, List.set_cons_succ, i64_w, i32_w, u8_w]
    rfl
  refine pure_ (i := 4) (N := some 87) (v := ?_) (a' := ?_) #[true, true, true, true, true, false, false, false, false, false, false, false, false] rfl rfl (by kernel_rfl) (fun _ _ _ h => h) (Or.inl ⟨by rfl, ?_⟩) ?_ ?_
  rotate_left
  · intro w'
    go_simp
    with_reducible rfl
  rotate_left
  · simp only [Act.put, List.setIfInBounds_toArray, List.set_cons_zero, List.set_cons_succ, i64_w, i32_w, u8_w]
    rfl
  refine take_ (i := 5) (N := some 88) (v := ?_) (a' := ?_) #[true, true, true, true, true, true, false, false, false, false, false, false, false] rfl rfl (by kernel_rfl) (fun _ _ _ h => h) (Or.inl ⟨by rfl, ?_⟩) hHeld ?_ ?_
  rotate_left
  · rintro w' ⟨s0, s1, s2⟩
    go_simp
    with_reducible rfl
  rotate_left
  · simp only [Act.put, List.setIfInBounds_toArray, List.set_cons_zero, List.set_cons_succ, i64_w, i32_w, u8_w]
    rfl
  refine take_ (i := 6) (N := some 89) (v := ?_) (a' := ?_) #[true, true, true, true, true, true, true, false, false, false, false, false, false] rfl rfl (by kernel_rfl) (fun _ _ _ h => h) (Or.inl ⟨by rfl, ?_⟩) hHeld ?_ ?_
  rotate_left
  · rintro w' ⟨s0, s1, s2⟩
    go_simp
    with_reducible rfl
  rotate_left
  · simp only [Act.put, List.setIfInBounds_toArray, List.set_cons_zero, List.set_cons_succ, i64_w, i32_w, u8_w]
    rfl
  refine one_ (i := 7) (N := some 90) #[true, true, true, true, true, true, true, true, false, false, false, false, false] rfl rfl (by kernel_rfl) (by decide) (fun K hK => ?_)
  refine value_ (w1 := ?_) (v := ?_) (by rfl) rfl ?_ ?_
  rotate_left 2
  · go_simp
    constructor
    · rfl
    · rfl
  refine hK.out _ _ ⟨pw_cell_below (below_alloc (Below.refl _ _) _) (HQ.out), pw_cell_below (below_alloc (Below.refl _ _) _) (show wd.cell? ⟨g12, 0, none⟩ = _ from (blk_cell B12.out 0).trans rfl), pw_cell_below (below_alloc (Below.refl _ _) _) (show wd.cell? ⟨g12, 1, none⟩ = _ from (blk_cell B12.out 1).trans rfl)⟩ (fun hHeld => ?_)
  clear hK K
  refine norm_ (a' := ?_) ?_ ?_
  rotate_left
  · show Act.put _ (some 90) _ = _
    simp only [Act.put, List.setIfInBounds_toArray, List.set_cons_zero, List.set_cons_succ, i64_w, i32_w, u8_w]
    rfl
  refine last_ (i := 8) (N := some 91) #[true, true, true, true, true, true, true, true, true, false, false, false, false] rfl rfl (by kernel_rfl) (by decide) (fun K hK => ?_)
  refine Kd.Q_append_step k63 (w0 := w0) w0.heap.size (by rfl) (.tmp 88) (.tmp 90) 56 63 (.agg #[.int .i64 0, .bool false]) 16 rfl Try.underlying56 info63 rfl (by decide) (by omega) (.slice A r.w.length c) r.w (⟨who, wr⟩ : S63) [.int .i64 who, .bool wr] (fun _ => True) (fun _ => False) rfl rfl (k63_mkM _ _ _ ⟨who, wr⟩) (fun _ h => h.elim) (fun _ _ => trivial) HO.out HBW.out HBW.out.size ?aL ?_
  (case aL => have := HLW.out; omega)
  intro v1 w11 ho hb hg hat
  obtain ⟨ys, hys⟩ : ∃ ys, r.w ++ [(⟨who, wr⟩ : S63)] = ys := ⟨_, rfl⟩
  rw [hys] at ho
  have HYS := Aside0.mk hys
  clear hys
  obtain ⟨A9, c9, e9, _⟩ := Kd.Q_slice ho
  subst e9
  have hqz : w11.heap[r.g]? = some (.cells #[r.vh, r.vw] 60 (0, 0)) := blk_grown HR.out.1 hg (by rw [← EH.out]; intro e; obtain ⟨c, hc⟩ := Kd.Q_typed HR.out.2.2.2.1 r.g e.symm; rw [HR.out.1] at hc; injection hc with hc; injection hc with _ hc _; exact absurd hc (by decide))
  rw [← EH.out] at hg hat
  have HS := Aside0.mk (HR.out.setW (Below.refl wd.heap.size wd) ho hg hat)
  have HZ := Aside0.mk hqz
  have HB11 := Aside0.mk hb
  clear hqz ho hg hat hb
  refine hK.out _ _ ?_
  clear hK K
  refine norm_ (a' := ?_) ?_ ?_
  rotate_left
  · show Act.put _ (some 91) _ = _
    simp only [Act.put, List.setIfInBounds_toArray, List.set_cons_zero, List.set_cons_succ, i64_w, i32_w, u8_w]
    rfl
  refine pure_ (i := 9) (N := some 92) (v := ?_) (a' := ?_) #[true, true, true, true, true, true, true, true, true, true, false, false, false] rfl rfl (by kernel_rfl) (fun _ _ _ h => h) (Or.inl ⟨by rfl, ?_⟩) ?_ ?_
  rotate_left
  · intro w'
    go_simp
    with_reducible rfl
  rotate_left
  · simp only [Act.put, List.setIfInBounds_toArray, List.set_cons_zero, List.set_cons_succ, i64_w, i32_w, u8_w]
    rfl
  refine pure_ (i := 10) (N := some 93) (v := ?_) (a' := ?_) #[true, true, true, true, true, true, true, true, true, true, true, false, false] rfl rfl (by kernel_rfl) (fun _ _ _ h => h) (Or.inl ⟨by rfl, ?_⟩) ?_ ?_
  rotate_left
  · intro w'
    go_simp
    with_reducible rfl
  rotate_left
  · simp only [Act.put, List.setIfInBounds_toArray, List.set_cons_zero, List.set_cons_succ, i64_w, i32_w, u8_w]
    rfl
  refine pure_ (i := 11) (N := some 94) (v := ?_) (a' := ?_) #[true, true, true, true, true, true, true, true, true, true, true, true, false] rfl rfl (by kernel_rfl) (fun _ _ _ h => h) (Or.inl ⟨by rfl, ?_⟩) ?_ ?_
  rotate_left
  · intro w'
    go_simp
    with_reducible rfl
  rotate_left
  · simp only [Act.put, List.setIfInBounds_toArray, List.set_cons_zero, List.set_cons_succ, i64_w, i32_w, u8_w]
    rfl
  refine last_ (i := 12) (N := none) #[true, true, true, true, true, true, true, true, true, true, true, true, true] rfl rfl (by kernel_rfl) (by decide) (fun K hK => ?_)
  have hz1 : w11.cell? ⟨r.g, 1, none⟩ = some (r.vw) := (blk_cell HZ.out 1).trans rfl
  have hf1 := blk_frozen HZ.out 1
  refine skip_ (w1 := ?_) (by rfl) rfl ?_ ?_
  rotate_left
  · go_simp
    rfl
  refine hK.out _ _ ?_
  clear hK K
  refine done_ (by kernel_rfl) ?_
  go_wp2
  go_ret2
  obtain ⟨u1, u2, u3⟩ := HS.out
  exact ⟨rfl, ⟨B, clk, _, HA.out.upd u2 u1 rfl rfl rfl u3, by rw [HYS.out]; exact (set_some (r' := r.setW _ ys) HK.out HK.out HN.out).symm⟩, HB11.out.setCell (p := ⟨r.g, 1, none⟩) HR.out.2.1 _⟩
set_option maxRecDepth 100000 in
set_option maxHeartbeats 8000000 in
theorem Ask_waits0 [Obs] (gl : Nat) (who : Int) (key : ByteArray) (wr : Bool) (B clk : Nat) (S : List LRec) (w0 w : World) (hA : LockAt w w0.heap.size gl B clk S) (hB : Below w0.heap.size w0 w) (hs : SmallP (S.map projR)) (hcli : okC who) (S1 S2 : List LRec) (r : LRec) (hS : S = S1 ++ r :: S2) (hk : r.key = key) (hn : ∀ s ∈ S1, s.key ≠ key) (hh : hasF r.h who = false) (hw : hasF r.w who = false) (he : r.w.length = 0) (hm : mayF r.h wr = false) :
    Calls Try.prog 13 #[.pointer (some ⟨gl, 0, none⟩), .int .i64 who, .string key, .bool wr] w fun e w' => e = .returned (.tuple #[.bool false, .int .i64 0]) ∧ LocksAt w' w0.heap.size gl (setP key (r.h, r.w ++ [⟨who, wr⟩]) (S.map projR)) ∧ Below w0.heap.size w0 w' := by
  subst hS
  have HCL := Aside0.mk (show w.cell? ⟨gl, 0, none⟩ = some (.map (some B)) from (blk_cell hA.1 0).trans rfl)
  have HB0 := Aside0.mk hB
  have HA := Aside0.mk hA
  have qMN : ∀ (w : World) (r : Option Nat), (binOp .eql 49 (.map r) (.map none)).run Try.prog w = .ok (.bool r.isNone) w := fun w r => run_eql_map_nil w _ _ _ r Try.underlying49
  have HW := Aside0.mk (below_alloc (Below.refl w.heap.size w) (.cells #[.int .i64 who] 3 (0, 0)))
  have G5 := Aside0.mk (show (w.alloc (.cells #[.int .i64 who] 3 (0, 0))).heap[w.heap.size]? = some (cellW who) from blk_new w _)
  have hclw1 : (w.alloc (.cells #[.int .i64 who] 3 (0, 0))).cell? ⟨gl, 0, none⟩ = some (.map (some B)) := pw_cell_below HW.out HCL.out
  have hg5w1 : (w.alloc (.cells #[.int .i64 who] 3 (0, 0))).cell? ⟨w.heap.size, 0, none⟩ = some (.int .i64 who) := (blk_cell G5.out 0).trans rfl
  have HCLI := Aside0.mk (client_yes hcli)
  have HR := Aside0.mk (hA.2.2.2.2.1 r (by simp))
  have hsm := hs (projR r) (List.mem_map.2 ⟨r, by simp, rfl⟩)
  have HLH := Aside0.mk (show r.h.length ≤ 1048576 by have := hsm.1; unfold projR at this; dsimp only at this; omega)
  have HLW := Aside0.mk (show r.w.length ≤ 1048576 by have := hsm.2; unfold projR at this; dsimp only at this; omega)
  have HLK := Aside0.mk (fun (W : World) (hb : Below w.heap.size w W) => (show (Instr.lookup 49 (.map (some B)) (.string key) false).run Try.prog W = .ok (.pointer (some ⟨r.g, 0, none⟩)) W from by
    have h1 := run_look W key (hA.below hb).2.2.1
    have h2 := look_ptr hk hn (S2 := S2)
    rw [h2] at h1
    exact h1))
  have HK := Aside0.mk hk
  have HN := Aside0.mk hn
  clear hA hB hs hcli hsm hk hn
  go_enter Try.func13, Try.ntmps13
  go_upto_region 9 with (first
        | (go_at_call 21; refine (locks_client.calls who true _ HCLI.out).mono ?_; rintro e_ w2 ⟨rfl, hd⟩; have hb := hd.below; clear hd; have n0 := Aside0.mk (below_then HW.out HW.out.size hb); have n1 := Aside0.mk (blk_below G5.out hb); clear HW G5; have HW := n0; have G5 := n1; clear n0 n1; clear hb; clear hclw1 hg5w1; have hclw2 := pw_cell_below HW.out HCL.out; have hg5w2 : w2.cell? ⟨w.heap.size, 0, none⟩ = some (.int .i64 who) := (blk_cell G5.out 0).trans rfl; have hlk := HLK.out _ HW.out)
        )
  clear hclw2 hg5w2
  clear hlk
  have n0 := Aside0.mk (HA.out.below HW.out)
  have n1 := Aside0.mk (HR.out.below HW.out)
  have n2 := Aside0.mk (below_then HB0.out HB0.out.size HW.out)
  clear HA HR
  have HA := n0
  have HR := n1
  have HBW := n2
  clear n0 n1 n2
  clear HW HLK HCL
  go_upto_region 13 with (first
        | ((go_at_call 23); (with_reducible refine (has_ask1_h HR.out w.heap.size who HLH.out G5.out).mono ?_); rintro e_ w6 ⟨rfl, hb⟩; have n0 := Aside0.mk (below_then HBW.out HBW.out.size hb); have n1 := Aside0.mk (HA.out.below hb); have n2 := Aside0.mk (HR.out.below hb); have n3 := Aside0.mk (blk_below G5.out hb); clear HBW HA HR G5; have HBW := n0; have HA := n1; have HR := n2; have G5 := n3; clear n0 n1 n2 n3; clear hb)
        | ((go_at_call 23); (with_reducible refine (has_ask1_w HR.out w.heap.size who HLW.out G5.out).mono ?_); rintro e_ w7 ⟨rfl, hb⟩; have n0 := Aside0.mk (below_then HBW.out HBW.out.size hb); have n1 := Aside0.mk (HA.out.below hb); have n2 := Aside0.mk (HR.out.below hb); have n3 := Aside0.mk (blk_below G5.out hb); clear HBW HA HR G5; have HBW := n0; have HA := n1; have HR := n2; have G5 := n3; clear n0 n1 n2 n3; clear hb; have hg57 : w7.cell? ⟨w.heap.size, 0, none⟩ = some (.int .i64 who) := (blk_cell G5.out 0).trans rfl)
        )
  clear hg57
  have hb := below_alloc (Below.refl w7.heap.size w7) (.cells #[.int .i64 who, .bool wr] 63 (0, 0))
  have B12 := Aside0.mk (blk_new w7 (.cells #[.int .i64 who, .bool wr] 63 (0, 0)))
  obtain ⟨g12, hg12⟩ : ∃ g12, w7.heap.size = g12 := ⟨_, rfl⟩
  rw [hg12] at B12 ⊢
  have n0 := Aside0.mk (below_then HBW.out HBW.out.size hb)
  have n1 := Aside0.mk (HA.out.below hb)
  have n2 := Aside0.mk (HR.out.below hb)
  have n3 := Aside0.mk (blk_below G5.out hb)
  clear HBW HA HR G5
  have HBW := n0
  have HA := n1
  have HR := n2
  have G5 := n3
  clear n0 n1 n2 n3
  clear hb hg12
  generalize (w7.alloc (.cells #[.int .i64 who, .bool wr] 63 (0, 0))) = w8 at HBW HA HR G5 B12 ⊢
  obtain ⟨A1, c1, ew, hlw, hcw, hbw, hqw, _⟩ := HR.out.waits_
  clear hlw hcw hbw
  go_wp2_with (first
        | (go_at_call 25; refine (may_r HR.out wr).mono ?_; rintro e_ w9 ⟨rfl, hw9⟩; have hw9 := hw9.symm; subst hw9)
        )
  have HE := Aside0.mk he
  clear he
  have hb := below_drew1 (Below.refl w8.heap.size w8)
  have n0 := Aside0.mk (below_then HBW.out HBW.out.size hb)
  have n1 := Aside0.mk (HA.out.below hb)
  have n2 := Aside0.mk (HR.out.below hb)
  have n3 := Aside0.mk (blk_below G5.out hb)
  have n4 := Aside0.mk (blk_drew B12.out)
  clear HBW HA HR G5 B12
  have HBW := n0
  have HA := n1
  have HR := n2
  have G5 := n3
  have B12 := n4
  clear n0 n1 n2 n3 n4
  clear hb hqw
  obtain ⟨A, c, ew2, hlw, hcw, hbw, hqw, _⟩ := HR.out.waits_
  have HQ := Aside0.mk hqw
  have HO := Aside0.mk HR.out.2.2.2.1
  rw [ew2] at HO
  have EH := Aside0.mk ew2
  clear ew2 hlw hcw hbw hqw
  have HBD := Aside0.mk (Below.refl w8.drew.heap.size w8.drew)
  refine start_ (n := 13) (S := fun w' => w'.cell? ⟨r.g, 1, none⟩ = some (.slice A r.w.length c) ∧ w'.cell? ⟨g12, 0, none⟩ = some (.int .i64 who) ∧ w'.cell? ⟨g12, 1, none⟩ = some (.bool wr)) (ds := [8, 12]) #[false, false, false, false, false, false, false, false, false, false, false, false, false] (by kernel_rfl) rfl rfl ⟨HQ.out, (blk_cell B12.out 0).trans rfl, (blk_cell B12.out 1).trans rfl⟩ (fun hHeld => ?_)
  generalize w8.drew = wd at HBW HA HR G5 B12 HQ HO HBD hHeld ⊢
  refine pure_ (i := 0) (N := some 83) (v := ?_) (a' := ?_) #[true, false, false, false, false, false, false, false, false, false, false, false, false] rfl rfl (by kernel_rfl) (fun _ _ _ h => h) (Or.inl ⟨by rfl, ?_⟩) ?_ ?_
  rotate_left
  · intro w'
    go_simp
    with_reducible rfl
  rotate_left
  · simp only [Act.put, List.setIfInBounds_toArray, List.set_cons_zero, List.set_cons_succ, i64_w, i32_w, u8_w]
    rfl
  refine pure_ (i := 1) (N := some 84) (v := ?_) (a' := ?_) #[true, true, false, false, false, false, false, false, false, false, false, false, false] rfl rfl (by kernel_rfl) (fun _ _ _ h => h) (Or.inl ⟨by rfl, ?_⟩) ?_ ?_
  rotate_left
  · intro w'
    go_simp
    with_reducible rfl
  rotate_left
  · simp only [Act.put, List.setIfInBounds_toArray, List.set_cons_zero, List.set_cons_succ, i64_w, i32_w, u8_w]
    rfl
  refine pure_ (i := 2) (N := some 85) (v := ?_) (a' := ?_) #[true, true, true, false, false, false, false, false, false, false, false, false, false] rfl rfl (by kernel_rfl) (fun _ _ _ h => h) (Or.inl ⟨by rfl, ?_⟩) ?_ ?_
  rotate_left
  · intro w'
    go_simp
    with_reducible rfl
  rotate_left
  · simp only [Act.put, List.setIfInBounds_toArray, List.set_cons_zero, List.set_cons_succ, i64_w, i32_w, u8_w]
    rfl
  refine pure_ (i := 3) (N := some 86) (v := ?_) (a' := ?_) #[true, true, true, true, false, false, false, false, false, false, false, false, false] rfl rfl (by kernel_rfl) (fun _ _ _ h => h) (Or.inl ⟨by rfl, ?_⟩) ?_ ?_
  rotate_left
  · intro w'
    go_simp
    with_reducible rfl
  rotate_left
  · simp only [Act.put, List.setIfInBounds_toArray, List.set_cons_zero, List.set_cons_succ, i64_w, i32_w, u8_w]
    rfl
  refine pure_ (i := 4) (N := some 87) (v := ?_) (a' := ?_) #[true, true, true, true, true, false, false, false, false, false, false, false, false] rfl rfl (by kernel_rfl) (fun _ _ _ h => h) (Or.inl ⟨by rfl, ?_⟩) ?_ ?_
  rotate_left
  · intro w'
    go_simp
    with_reducible rfl
  rotate_left
  · simp only [Act.put, List.setIfInBounds_toArray, List.set_cons_zero, List.set_cons_succ, i64_w, i32_w, u8_w]
    rfl
  refine take_ (i := 5) (N := some 88) (v := ?_) (a' := ?_) #[true, true, true, true, true, true, false, false, false, false, false, false, false] rfl rfl (by kernel_rfl) (fun _ _ _ h => h) (Or.inl ⟨by rfl, ?_⟩) hHeld ?_ ?_
  rotate_left
  · rintro w' ⟨s0, s1, s2⟩
    go_simp
    with_reducible rfl
  rotate_left
  · simp only [Act.put, List.setIfInBounds_toArray, List.set_cons_zero, List.set_cons_succ, i64_w, i32_w, u8_w]
    rfl
  refine take_ (i := 6) (N := some 89) (v := ?_) (a' := ?_) #[true, true, true, true, true, true, true, false, false, false, false, false, false] rfl rfl (by kernel_rfl) (fun _ _ _ h => h) (Or.inl ⟨by rfl, ?_⟩) hHeld ?_ ?_
  rotate_left
  · rintro w' ⟨s0, s1, s2⟩
    go_simp
    with_reducible rfl
  rotate_left
  · simp only [Act.put, List.setIfInBounds_toArray, List.set_cons_zero, List.set_cons_succ, i64_w, i32_w, u8_w]
    rfl
  refine one_ (i := 7) (N := some 90) #[true, true, true, true, true, true, true, true, false, false, false, false, false] rfl rfl (by kernel_rfl) (by decide) (fun K hK => ?_)
  refine value_ (w1 := ?_) (v := ?_) (by rfl) rfl ?_ ?_
  rotate_left 2
  · go_simp
    constructor
    · rfl
    · rfl
  refine hK.out _ _ ⟨pw_cell_below (below_alloc (Below.refl _ _) _) (HQ.out), pw_cell_below (below_alloc (Below.refl _ _) _) (show wd.cell? ⟨g12, 0, none⟩ = _ from (blk_cell B12.out 0).trans rfl), pw_cell_below (below_alloc (Below.refl _ _) _) (show wd.cell? ⟨g12, 1, none⟩ = _ from (blk_cell B12.out 1).trans rfl)⟩ (fun hHeld => ?_)
  clear hK K
  refine norm_ (a' := ?_) ?_ ?_
  rotate_left
  · show Act.put _ (some 90) _ = _
    simp only [Act.put, List.setIfInBounds_toArray, List.set_cons_zero, List.set_cons_succ, i64_w, i32_w, u8_w]
    rfl
  refine last_ (i := 8) (N := some 91) #[true, true, true, true, true, true, true, true, true, false, false, false, false] rfl rfl (by kernel_rfl) (by decide) (fun K hK => ?_)
  refine Kd.Q_append_step k63 (w0 := w0) w0.heap.size (by rfl) (.tmp 88) (.tmp 90) 56 63 (.agg #[.int .i64 0, .bool false]) 16 rfl Try.underlying56 info63 rfl (by decide) (by omega) (.slice A r.w.length c) r.w (⟨who, wr⟩ : S63) [.int .i64 who, .bool wr] (fun _ => True) (fun _ => False) rfl rfl (k63_mkM _ _ _ ⟨who, wr⟩) (fun _ h => h.elim) (fun _ _ => trivial) HO.out HBW.out HBW.out.size ?aL ?_
  (case aL => have := HLW.out; omega)
  intro v1 w11 ho hb hg hat
  obtain ⟨ys, hys⟩ : ∃ ys, r.w ++ [(⟨who, wr⟩ : S63)] = ys := ⟨_, rfl⟩
  rw [hys] at ho
  have HYS := Aside0.mk hys
  clear hys
  obtain ⟨A9, c9, e9, _⟩ := Kd.Q_slice ho
  subst e9
  have hqz : w11.heap[r.g]? = some (.cells #[r.vh, r.vw] 60 (0, 0)) := blk_grown HR.out.1 hg (by rw [← EH.out]; intro e; obtain ⟨c, hc⟩ := Kd.Q_typed HR.out.2.2.2.1 r.g e.symm; rw [HR.out.1] at hc; injection hc with hc; injection hc with _ hc _; exact absurd hc (by decide))
  rw [← EH.out] at hg hat
  have HS := Aside0.mk (HR.out.setW (Below.refl wd.heap.size wd) ho hg hat)
  have HZ := Aside0.mk hqz
  have HB11 := Aside0.mk hb
  clear hqz ho hg hat hb
  refine hK.out _ _ ?_
  clear hK K
  refine norm_ (a' := ?_) ?_ ?_
  rotate_left
  · show Act.put _ (some 91) _ = _
    simp only [Act.put, List.setIfInBounds_toArray, List.set_cons_zero, List.set_cons_succ, i64_w, i32_w, u8_w]
    rfl
  refine pure_ (i := 9) (N := some 92) (v := ?_) (a' := ?_) #[true, true, true, true, true, true, true, true, true, true, false, false, false] rfl rfl (by kernel_rfl) (fun _ _ _ h => h) (Or.inl ⟨by rfl, ?_⟩) ?_ ?_
  rotate_left
  · intro w'
    go_simp
    with_reducible rfl
  rotate_left
  · simp only [Act.put, List.setIfInBounds_toArray, List.set_cons_zero, List.set_cons_succ, i64_w, i32_w, u8_w]
    rfl
  refine pure_ (i := 10) (N := some 93) (v := ?_) (a' := ?_) #[true, true, true, true, true, true, true, true, true, true, true, false, false] rfl rfl (by kernel_rfl) (fun _ _ _ h => h) (Or.inl ⟨by rfl, ?_⟩) ?_ ?_
  rotate_left
  · intro w'
    go_simp
    with_reducible rfl
  rotate_left
  · simp only [Act.put, List.setIfInBounds_toArray, List.set_cons_zero, List.set_cons_succ, i64_w, i32_w, u8_w]
    rfl
  refine pure_ (i := 11) (N := some 94) (v := ?_) (a' := ?_) #[true, true, true, true, true, true, true, true, true, true, true, true, false] rfl rfl (by kernel_rfl) (fun _ _ _ h => h) (Or.inl ⟨by rfl, ?_⟩) ?_ ?_
  rotate_left
  · intro w'
    go_simp
    with_reducible rfl
  rotate_left
  · simp only [Act.put, List.setIfInBounds_toArray, List.set_cons_zero, List.set_cons_succ, i64_w, i32_w, u8_w]
    rfl
  refine last_ (i := 12) (N := none) #[true, true, true, true, true, true, true, true, true, true, true, true, true] rfl rfl (by kernel_rfl) (by decide) (fun K hK => ?_)
  have hz1 : w11.cell? ⟨r.g, 1, none⟩ = some (r.vw) := (blk_cell HZ.out 1).trans rfl
  have hf1 := blk_frozen HZ.out 1
  refine skip_ (w1 := ?_) (by rfl) rfl ?_ ?_
  rotate_left
  · go_simp
    rfl
  refine hK.out _ _ ?_
  clear hK K
  refine done_ (by kernel_rfl) ?_
  go_wp2
  go_ret2
  obtain ⟨u1, u2, u3⟩ := HS.out
  exact ⟨rfl, ⟨B, clk, _, HA.out.upd u2 u1 rfl rfl rfl u3, by rw [HYS.out]; exact (set_some (r' := r.setW _ ys) HK.out HK.out HN.out).symm⟩, HB11.out.setCell (p := ⟨r.g, 1, none⟩) HR.out.2.1 _⟩
set_option maxRecDepth 100000 in
set_option maxHeartbeats 8000000 in
theorem Ask_new [Obs] (gl : Nat) (who : Int) (key : ByteArray) (wr : Bool) (B clk : Nat) (S : List LRec) (w0 w : World) (hA : LockAt w w0.heap.size gl B clk S) (hB : Below w0.heap.size w0 w) (hs : SmallP (S.map projR)) (hcli : okC who) (hf : findE key S 0 = none) :
    Calls Try.prog 13 #[.pointer (some ⟨gl, 0, none⟩), .int .i64 who, .string key, .bool wr] w fun e w' => e = .returned (.tuple #[.bool true, .int .i64 0]) ∧ LocksAt w' w0.heap.size gl (S.map projR ++ [(key, [⟨who, wr⟩], [])]) ∧ Below w0.heap.size w0 w' := by
  have HCL := Aside0.mk (show w.cell? ⟨gl, 0, none⟩ = some (.map (some B)) from (blk_cell hA.1 0).trans rfl)
  have HB0 := Aside0.mk hB
  have HA := Aside0.mk hA
  have qMN : ∀ (w : World) (r : Option Nat), (binOp .eql 49 (.map r) (.map none)).run Try.prog w = .ok (.bool r.isNone) w := fun w r => run_eql_map_nil w _ _ _ r Try.underlying49
  have HW := Aside0.mk (below_alloc (Below.refl w.heap.size w) (.cells #[.int .i64 who] 3 (0, 0)))
  have G5 := Aside0.mk (show (w.alloc (.cells #[.int .i64 who] 3 (0, 0))).heap[w.heap.size]? = some (cellW who) from blk_new w _)
  have hclw1 : (w.alloc (.cells #[.int .i64 who] 3 (0, 0))).cell? ⟨gl, 0, none⟩ = some (.map (some B)) := pw_cell_below HW.out HCL.out
  have hg5w1 : (w.alloc (.cells #[.int .i64 who] 3 (0, 0))).cell? ⟨w.heap.size, 0, none⟩ = some (.int .i64 who) := (blk_cell G5.out 0).trans rfl
  have HCLI := Aside0.mk (client_yes hcli)
  have HLK := Aside0.mk (fun (W : World) (hb : Below w.heap.size w W) => (show (Instr.lookup 49 (.map (some B)) (.string key) false).run Try.prog W = .ok (.pointer none) W from by
    have h1 := run_look W key (hA.below hb).2.2.1
    unfold lookV at h1
    rw [hf] at h1
    exact h1))
  have HF := Aside0.mk hf
  clear hA hB hs hcli hf
  have n0 := Aside0.mk (HA.out.below HW.out)
  clear HA
  have HA := n0
  clear n0
  go_enter Try.func13, Try.ntmps13
  go_upto_region 9 with (first
        | (go_at_call 21; refine (locks_client.calls who true _ HCLI.out).mono ?_; rintro e_ w2 ⟨rfl, hd⟩; have hb := hd.below; clear hd; have n0 := Aside0.mk (below_then HW.out HW.out.size hb); have n1 := Aside0.mk (blk_below G5.out hb); have n2 := Aside0.mk (HA.out.below hb); clear HW G5 HA; have HW := n0; have G5 := n1; have HA := n2; clear n0 n1 n2; clear hb; clear hclw1 hg5w1; have hclw2 := pw_cell_below HW.out HCL.out; have hg5w2 : w2.cell? ⟨w.heap.size, 0, none⟩ = some (.int .i64 who) := (blk_cell G5.out 0).trans rfl; have hlk := HLK.out _ HW.out; have HB3 := Aside0.mk (below_alloc (Below.refl w2.heap.size w2) (.cells #[.slice none 0 0, .slice none 0 0] 60 (0, 0))); have hclw3 : (w2.alloc (.cells #[.slice none 0 0, .slice none 0 0] 60 (0, 0))).cell? ⟨gl, 0, none⟩ = some (.map (some B)) := pw_cell_below HB3.out hclw2; obtain ⟨ob, hob⟩ : ∃ ob, Obj.map ((S ++ [zeroR key clk w2.heap.size]).map entOf).toArray (clk + 1) = ob := ⟨_, rfl⟩; have hput : (Instr.mapUpdate 49 (.map (some B)) (.string key) (.pointer (some ⟨w2.heap.size, 0, none⟩))).run Try.prog (w2.alloc (.cells #[.slice none 0 0, .slice none 0 0] 60 (0, 0))) = .ok () ((w2.alloc (.cells #[.slice none 0 0, .slice none 0 0] 60 (0, 0))).putObj B ob) := (by rw [← hob]; exact run_put _ (zeroR key clk w2.heap.size) (HA.out.below HB3.out).2.2.1 HF.out rfl); have HOB := Aside0.mk hob; clear hob)
        )
  clear hclw2 hg5w2
  clear hlk hput hclw3
  have NG := Aside0.mk (fun s hs hk => by obtain ⟨_, c, q, _, hc⟩ := (HA.out.2.2.2.2.1 s hs).typed hk; have := blk_lt hc; omega : ∀ s ∈ S, ¬ s.bs w2.heap.size)
  have B36 := Aside0.mk (blk_new w2 (.cells #[.slice none 0 0, .slice none 0 0] 60 (0, 0)))
  have n0 := Aside0.mk (HA.out.below HB3.out)
  have n1 := Aside0.mk (blk_below G5.out HB3.out)
  have n2 := Aside0.mk (below_then HW.out HW.out.size HB3.out)
  have GE := Aside0.mk HW.out.size
  clear HA G5 HW HB3
  have HA := n0
  have G5 := n1
  have HW := n2
  clear n0 n1 n2
  obtain ⟨g36, hg36⟩ : ∃ g36, w2.heap.size = g36 := ⟨_, rfl⟩
  rw [hg36] at NG B36 GE HOB ⊢
  clear hg36
  generalize w2.alloc (.cells #[.slice none 0 0, .slice none 0 0] 60 (0, 0)) = w3 at B36 HA G5 HW ⊢
  have hm := HA.out.2.2.1
  have hBl := blk_lt hm
  have hkp := putObj_kept w3 B ob
  have hn5 : w.heap.size ≠ B := fun e => by have h := G5.out; rw [e, hm] at h; injection h with h; cases h
  have hn36 : g36 ≠ B := fun e => by have h := B36.out; rw [e, hm] at h; injection h with h; cases h
  have hr : RecAt (w3.putObj B ob) w0.heap.size (zeroR key clk g36) := ⟨heap_kept hkp B36.out hn36, Nat.le_trans HB0.out.size GE.out, Kd.R_nil _ _ _ _ _, Kd.Q_nil _ _ _ _ _, fun k hk => by cases hk⟩
  have hnb : ∀ s ∈ S, ∀ k, s.bs k → ¬ (zeroR key clk g36).bs k := fun s hs k h1 h2 => by
    rcases h2 with h2 | h2 | h2
    · subst h2; exact NG.out s hs h1
    · cases h2
    · cases h2
  have hA4 := HA.out.add (r := zeroR key clk g36) hkp (by rw [← HOB.out]; exact putObj_new w3 hBl _) hr (findE_none HF.out) hnb
  have hbw := below_then HB0.out HB0.out.size HW.out
  have hbw4 := pw_below_grown hbw (some B) hbw.size (grownBy_putObj' w3 B ob) (fun k e => by injection e with e; subst e; exact HA.out.2.2.2.1)
  have n0 := Aside0.mk hA4
  have n1 := Aside0.mk hr
  have n2 := Aside0.mk hbw4
  have n3 := Aside0.mk (heap_kept hkp G5.out hn5)
  clear hm hBl hkp hn5 hn36 hr hnb hA4 hbw hbw4 HA HW G5 B36 NG HLK HCL GE HF HOB
  have HA := n0
  have HR := n1
  have HBW := n2
  have G5 := n3
  clear n0 n1 n2 n3
  generalize (w3.putObj B ob) = w4 at HA HR HBW G5 ⊢
  obtain ⟨r, hr⟩ : ∃ r, zeroR key clk g36 = r := ⟨_, rfl⟩
  rw [hr] at HA HR
  have eg : g36 = r.g := by rw [← hr]; rfl
  subst eg
  have hh : hasF r.h who = false := by rw [← hr]; rfl
  have hw : hasF r.w who = false := by rw [← hr]; rfl
  have he : r.w.length = 0 := by rw [← hr]; rfl
  have hmm : mayF r.h wr = true := by rw [← hr]; rfl
  have ERH := Aside0.mk (show r.h = [] by rw [← hr]; rfl)
  have ERW := Aside0.mk (show r.w = [] by rw [← hr]; rfl)
  have ERK := Aside0.mk (show r.key = key by rw [← hr]; rfl)
  have HLH := Aside0.mk (show r.h.length ≤ 1048576 by rw [← hr]; simp [zeroR])
  have HLW := Aside0.mk (show r.w.length ≤ 1048576 by omega)
  clear hr
  go_upto_region 13 with (first
        | ((go_at_call 23); (with_reducible refine (has_ask1_h HR.out w.heap.size who HLH.out G5.out).mono ?_); rintro e_ w6 ⟨rfl, hb⟩; have n0 := Aside0.mk (below_then HBW.out HBW.out.size hb); have n1 := Aside0.mk (HA.out.below hb); have n2 := Aside0.mk (HR.out.below hb); have n3 := Aside0.mk (blk_below G5.out hb); clear HBW HA HR G5; have HBW := n0; have HA := n1; have HR := n2; have G5 := n3; clear n0 n1 n2 n3; clear hb)
        | ((go_at_call 23); (with_reducible refine (has_ask1_w HR.out w.heap.size who HLW.out G5.out).mono ?_); rintro e_ w7 ⟨rfl, hb⟩; have n0 := Aside0.mk (below_then HBW.out HBW.out.size hb); have n1 := Aside0.mk (HA.out.below hb); have n2 := Aside0.mk (HR.out.below hb); have n3 := Aside0.mk (blk_below G5.out hb); clear HBW HA HR G5; have HBW := n0; have HA := n1; have HR := n2; have G5 := n3; clear n0 n1 n2 n3; clear hb; have hg57 : w7.cell? ⟨w.heap.size, 0, none⟩ = some (.int .i64 who) := (blk_cell G5.out 0).trans rfl)
        )
  clear hg57
  have hb := below_alloc (Below.refl w7.heap.size w7) (.cells #[.int .i64 who, .bool wr] 63 (0, 0))
  have B12 := Aside0.mk (blk_new w7 (.cells #[.int .i64 who, .bool wr] 63 (0, 0)))
  obtain ⟨g12, hg12⟩ : ∃ g12, w7.heap.size = g12 := ⟨_, rfl⟩
  rw [hg12] at B12 ⊢
  have n0 := Aside0.mk (below_then HBW.out HBW.out.size hb)
  have n1 := Aside0.mk (HA.out.below hb)
  have n2 := Aside0.mk (HR.out.below hb)
  have n3 := Aside0.mk (blk_below G5.out hb)
  clear HBW HA HR G5
  have HBW := n0
  have HA := n1
  have HR := n2
  have G5 := n3
  clear n0 n1 n2 n3
  clear hb hg12
  generalize (w7.alloc (.cells #[.int .i64 who, .bool wr] 63 (0, 0))) = w8 at HBW HA HR G5 B12 ⊢
  obtain ⟨A1, c1, ew, hlw, hcw, hbw, hqw, _⟩ := HR.out.waits_
  clear hlw hcw hbw
  go_wp2_with (first
        | (go_at_call 25; refine (may_r HR.out wr).mono ?_; rintro e_ w9 ⟨rfl, hw9⟩; have hw9 := hw9.symm; subst hw9)
        )
  have hb := below_drew1 (Below.refl w8.heap.size w8)
  have n0 := Aside0.mk (below_then HBW.out HBW.out.size hb)
  have n1 := Aside0.mk (HA.out.below hb)
  have n2 := Aside0.mk (HR.out.below hb)
  have n3 := Aside0.mk (blk_below G5.out hb)
  have n4 := Aside0.mk (blk_drew B12.out)
  clear HBW HA HR G5 B12
  have HBW := n0
  have HA := n1
  have HR := n2
  have G5 := n3
  have B12 := n4
  clear n0 n1 n2 n3 n4
  clear hb hqw
  obtain ⟨A, c, eh, hlh, hch, hbh, hqh, _⟩ := HR.out.holds_
  have HQ := Aside0.mk hqh
  have HO := Aside0.mk HR.out.2.2.1
  rw [eh] at HO
  have EH := Aside0.mk eh
  clear eh hlh hch hbh hqh
  have HBD := Aside0.mk (Below.refl w8.drew.heap.size w8.drew)
  refine start_ (n := 13) (S := fun w' => w'.cell? ⟨r.g, 0, none⟩ = some (.slice A r.h.length c) ∧ w'.cell? ⟨g12, 0, none⟩ = some (.int .i64 who) ∧ w'.cell? ⟨g12, 1, none⟩ = some (.bool wr)) (ds := [8, 12]) #[false, false, false, false, false, false, false, false, false, false, false, false, false] (by kernel_rfl) rfl rfl ⟨HQ.out, (blk_cell B12.out 0).trans rfl, (blk_cell B12.out 1).trans rfl⟩ (fun hHeld => ?_)
  generalize w8.drew = wd at HBW HA HR G5 B12 HQ HO HBD hHeld ⊢
  refine pure_ (i := 0) (N := some 71) (v := ?_) (a' := ?_) #[true, false, false, false, false, false, false, false, false, false, false, false, false] rfl rfl (by kernel_rfl) (fun _ _ _ h => h) (Or.inl ⟨by rfl, ?_⟩) ?_ ?_
  rotate_left
  · intro w'
    go_simp
    with_reducible rfl
  rotate_left
  · simp only [Act.put, List.setIfInBounds_toArray, List.set_cons_zero, List.set_cons_succ, i64_w, i32_w, u8_w]
    rfl
  refine pure_ (i := 1) (N := some 72) (v := ?_) (a' := ?_) #[true, true, false, false, false, false, false, false, false, false, false, false, false] rfl rfl (by kernel_rfl) (fun _ _ _ h => h) (Or.inl ⟨by rfl, ?_⟩) ?_ ?_
  rotate_left
  · intro w'
    go_simp
    with_reducible rfl
  rotate_left
  · simp only [Act.put, List.setIfInBounds_toArray, List.set_cons_zero, List.set_cons_succ, i64_w, i32_w, u8_w]
    rfl
  refine pure_ (i := 2) (N := some 73) (v := ?_) (a' := ?_) #[true, true, true, false, false, false, false, false, false, false, false, false, false] rfl rfl (by kernel_rfl) (fun _ _ _ h => h) (Or.inl ⟨by rfl, ?_⟩) ?_ ?_
  rotate_left
  · intro w'
    go_simp
    with_reducible rfl
  rotate_left
  · simp only [Act.put, List.setIfInBounds_toArray, List.set_cons_zero, List.set_cons_succ, i64_w, i32_w, u8_w]
    rfl
  refine pure_ (i := 3) (N := some 74) (v := ?_) (a' := ?_) #[true, true, true, true, false, false, false, false, false, false, false, false, false] rfl rfl (by kernel_rfl) (fun _ _ _ h => h) (Or.inl ⟨by rfl, ?_⟩) ?_ ?_
  rotate_left
  · intro w'
    go_simp
    with_reducible rfl
  rotate_left
  · simp only [Act.put, List.setIfInBounds_toArray, List.set_cons_zero, List.set_cons_succ, i64_w, i32_w, u8_w]
    rfl
  refine pure_ (i := 4) (N := some 75) (v := ?_) (a' := ?_) #[true, true, true, true, true, false, false, false, false, false, false, false, false] rfl rfl (by kernel_rfl) (fun _ _ _ h => h) (Or.inl ⟨by rfl, ?_⟩) ?_ ?_
  rotate_left
  · intro w'
    go_simp
    with_reducible rfl
  rotate_left
  · simp only [Act.put, List.setIfInBounds_toArray, List.set_cons_zero, List.set_cons_succ, i64_w, i32_w, u8_w]
    rfl
  refine take_ (i := 5) (N := some 76) (v := ?_) (a' := ?_) #[true, true, true, true, true, true, false, false, false, false, false, false, false] rfl rfl (by kernel_rfl) (fun _ _ _ h => h) (Or.inl ⟨by rfl, ?_⟩) hHeld ?_ ?_
  rotate_left
  · rintro w' ⟨s0, s1, s2⟩
    go_simp
    with_reducible rfl
  rotate_left
  · simp only [Act.put, List.setIfInBounds_toArray, List.set_cons_zero, List.set_cons_succ, i64_w, i32_w, u8_w]
    rfl
  refine take_ (i := 6) (N := some 77) (v := ?_) (a' := ?_) #[true, true, true, true, true, true, true, false, false, false, false, false, false] rfl rfl (by kernel_rfl) (fun _ _ _ h => h) (Or.inl ⟨by rfl, ?_⟩) hHeld ?_ ?_
  rotate_left
  · rintro w' ⟨s0, s1, s2⟩
    go_simp
    with_reducible rfl
  rotate_left
  · simp only [Act.put, List.setIfInBounds_toArray, List.set_cons_zero, List.set_cons_succ, i64_w, i32_w, u8_w]
    rfl
  refine one_ (i := 7) (N := some 78) #[true, true, true, true, true, true, true, true, false, false, false, false, false] rfl rfl (by kernel_rfl) (by decide) (fun K hK => ?_)
  refine Kd.R_lit_step k63 _ 63 ?hg (N := 78) ?hd (xs := ([⟨who, wr⟩] : List S63)) (inner := [.int .i64 who, .bool wr]) (ok := fun _ => True) (okp := fun _ => True) ?hr ?hp (fun _ hk => hk) trivial (Below.refl _ _) (Nat.le_refl _) (by simp) ?_; (case hd => rfl); (case hg => rfl); (case hr => first | (go_simp; done) | (go_simp; rfl)); (case hp => exact (Reps.snoc (Reps.none _ _) (k63_mkM _ _ _ ⟨who, wr⟩) rfl))
  intro v78 w10 ho hb hg_ hnew_
  obtain ⟨A78, c78, e78⟩ := Kd.R_slice ho
  subst e78
  have n0 := Aside0.mk ((Kd.R_reads' ho).2.2)
  have n1 := Aside0.mk (below_then HBD.out HBD.out.size hb)
  have n2 := Aside0.mk (Kd.R_below HO.out hb)
  have n3 := Aside0.mk (below_then HBW.out HBW.out.size hb)
  have n4 := Aside0.mk (pw_cell_below hb HQ.out)
  have n5 := Aside0.mk (blk_below B12.out hb)
  clear HBD HO HBW HQ B12
  have HL1 := n0
  have HBD := n1
  have HO := n2
  have HBW := n3
  have HQ := n4
  have B12 := n5
  clear n0 n1 n2 n3 n4 n5
  clear ho hb hg_ hnew_
  refine hK.out _ _ ⟨HQ.out, (blk_cell B12.out 0).trans rfl, (blk_cell B12.out 1).trans rfl⟩ (fun hHeld => ?_)
  clear hK K
  refine norm_ (a' := ?_) ?_ ?_
  rotate_left
  · show Act.put _ (some 78) _ = _
    simp only [Act.put, List.setIfInBounds_toArray, List.set_cons_zero, List.set_cons_succ, i64_w, i32_w, u8_w]
    rfl
  refine last_ (i := 8) (N := some 79) #[true, true, true, true, true, true, true, true, true, false, false, false, false] rfl rfl (by kernel_rfl) (by decide) (fun K hK => ?_)
  refine Kd.R_append_rows_step k63 (w0 := w0) w0.heap.size (by rfl) (.tmp 76) (.tmp 78) 56 63 (.agg #[.int .i64 0, .bool false]) 16 rfl Try.underlying56 info63 rfl (by decide) (by omega) (.slice A r.h.length c) r.h ([⟨who, wr⟩] : List S63) _ _ _ (fun _ => True) (fun _ => False) rfl rfl HO.out HL1.out (fun _ _ h => h) (fun _ h => h.elim) (fun _ _ => trivial) HBW.out HBW.out.size ?aL ?_
  (case aL => have := HLH.out; simp; omega)
  intro v1 w11 ho hb hg hat
  obtain ⟨ys, hys⟩ : ∃ ys, r.h ++ [(⟨who, wr⟩ : S63)] = ys := ⟨_, rfl⟩
  rw [hys] at ho
  have HYS := Aside0.mk hys
  clear hys
  obtain ⟨A9, c9, e9⟩ := Kd.R_slice ho
  subst e9
  have hqz : w11.heap[r.g]? = some (.cells #[r.vh, r.vw] 60 (0, 0)) := blk_grown (blk_below HR.out.1 HBD.out) hg (by rw [← EH.out]; exact Kd.R_ne HR.out.2.2.1 HR.out.1 (by decide))
  rw [← EH.out] at hg hat
  have HS := Aside0.mk (HR.out.setH HBD.out ho hg hat)
  have HZ := Aside0.mk hqz
  have HB11 := Aside0.mk hb
  clear hqz ho hg hat hb
  refine hK.out _ _ ?_
  clear hK K
  refine norm_ (a' := ?_) ?_ ?_
  rotate_left
  · show Act.put _ (some 79) _ = _
    simp only [Act.put, List.setIfInBounds_toArray, List.set_cons_zero, List.set_cons_succ, i64_w, i32_w, u8_w]
    rfl
  refine pure_ (i := 9) (N := some 80) (v := ?_) (a' := ?_) #[true, true, true, true, true, true, true, true, true, true, false, false, false] rfl rfl (by kernel_rfl) (fun _ _ _ h => h) (Or.inl ⟨by rfl, ?_⟩) ?_ ?_
  rotate_left
  · intro w'
    go_simp
    with_reducible rfl
  rotate_left
  · simp only [Act.put, List.setIfInBounds_toArray, List.set_cons_zero, List.set_cons_succ, i64_w, i32_w, u8_w]
    rfl
  refine pure_ (i := 10) (N := some 81) (v := ?_) (a' := ?_) #[true, true, true, true, true, true, true, true, true, true, true, false, false] rfl rfl (by kernel_rfl) (fun _ _ _ h => h) (Or.inl ⟨by rfl, ?_⟩) ?_ ?_
  rotate_left
  · intro w'
    go_simp
    with_reducible rfl
  rotate_left
  · simp only [Act.put, List.setIfInBounds_toArray, List.set_cons_zero, List.set_cons_succ, i64_w, i32_w, u8_w]
    rfl
  refine pure_ (i := 11) (N := some 82) (v := ?_) (a' := ?_) #[true, true, true, true, true, true, true, true, true, true, true, true, false] rfl rfl (by kernel_rfl) (fun _ _ _ h => h) (Or.inl ⟨by rfl, ?_⟩) ?_ ?_
  rotate_left
  · intro w'
    go_simp
    with_reducible rfl
  rotate_left
  · simp only [Act.put, List.setIfInBounds_toArray, List.set_cons_zero, List.set_cons_succ, i64_w, i32_w, u8_w]
    rfl
  refine last_ (i := 12) (N := none) #[true, true, true, true, true, true, true, true, true, true, true, true, true] rfl rfl (by kernel_rfl) (by decide) (fun K hK => ?_)
  have hz0 : w11.cell? ⟨r.g, 0, none⟩ = some (r.vh) := (blk_cell HZ.out 0).trans rfl
  have hf0 := blk_frozen HZ.out 0
  refine skip_ (w1 := ?_) (by rfl) rfl ?_ ?_
  rotate_left
  · go_simp
    rfl
  refine hK.out _ _ ?_
  clear hK K
  refine done_ (by kernel_rfl) ?_
  go_wp2
  go_ret2
  obtain ⟨u1, u2, u3⟩ := HS.out
  refine ⟨rfl, ⟨B, clk + 1, _, HA.out.upd u2 u1 rfl rfl rfl u3, ?_⟩, HB11.out.setCell (p := ⟨r.g, 0, none⟩) HR.out.2.1 _⟩
  rw [List.map_append]
  have e1 := HYS.out
  rw [ERH.out, List.nil_append] at e1
  show List.map projR S ++ [(r.key, ys, r.w)] = _
  rw [ERK.out, ERW.out, ← e1]
end

theorem Ask_calls [Obs] (gl : Nat) (who : Int) (key : ByteArray) (wr : Bool) (P : LP) (w0 w : World) (hL : LocksAt w w0.heap.size gl P) (hB : Below w0.heap.size w0 w) (hs : SmallP P) :
    Calls Try.prog 13 #[.pointer (some ⟨gl, 0, none⟩), .int .i64 who, .string key, .bool wr] w fun e w' => e = .returned (.tuple #[.bool (askP who key wr P).2.1, .int .i64 (askP who key wr P).2.2]) ∧ LocksAt w' w0.heap.size gl (askP who key wr P).1 ∧ Below w0.heap.size w0 w' := by
  obtain ⟨B, clk, S, hA, rfl⟩ := hL
  unfold askP
  by_cases hc : okC who
  · rw [if_pos hc]
    cases hf : findE key S 0 with
    | none =>
      rw [look_none hf]
      exact Ask_new gl who key wr B clk S w0 w hA hB hs hc hf
    | some x =>
      obtain ⟨S1, r, S2, hS, hk, hn, _⟩ := findE_some hf
      have hl := look_some (S2 := S2) hk hn
      rw [← hS] at hl
      rw [hl]
      dsimp only
      by_cases h1 : hasF r.h who = true
      · rw [if_pos h1]
        exact Ask_busyh gl who key wr B clk S w0 w hA hB hs hc S1 S2 r hS hk hn h1
      · rw [if_neg h1]
        have h1 := Bool.eq_false_iff.mpr h1
        by_cases h2 : hasF r.w who = true
        · rw [if_pos h2]
          exact Ask_busyw gl who key wr B clk S w0 w hA hB hs hc S1 S2 r hS hk hn h1 h2
        · rw [if_neg h2]
          have h2 := Bool.eq_false_iff.mpr h2
          by_cases h3 : r.w.length = 0
          · have e : r.w = [] := List.eq_nil_of_length_eq_zero h3
            have e2 : r.w.isEmpty = true := by rw [e]; rfl
            rw [e2, Bool.true_and]
            by_cases h4 : mayF r.h wr = true
            · rw [if_pos h4]
              exact Ask_holds gl who key wr B clk S w0 w hA hB hs hc S1 S2 r hS hk hn h1 h2 h3 h4
            · rw [if_neg h4]
              exact Ask_waits0 gl who key wr B clk S w0 w hA hB hs hc S1 S2 r hS hk hn h1 h2 h3 (Bool.eq_false_iff.mpr h4)
          · have e2 : r.w.isEmpty = false := by cases h : r.w with | nil => rw [h] at h3; exact absurd rfl h3 | cons x l => rfl
            rw [e2, Bool.false_and, if_neg (by decide)]
            exact Ask_waits gl who key wr B clk S w0 w hA hB hs hc S1 S2 r hS hk hn h1 h2 h3
  · rw [if_neg hc]
    exact Ask_bad gl who key wr B clk S w0 w hA hB hs hc
end Go.Proofs.Ytdhabfjfpbdjfaa.Pr
