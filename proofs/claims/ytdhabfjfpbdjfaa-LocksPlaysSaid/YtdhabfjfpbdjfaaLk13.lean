-- A text by hand (wip/locks).
import Derived.RangeFuncNested
import Derived.RangeFuncBound
import Derived.RangeFuncCalls
import Derived.RangeFuncLeaves
import Derived.RangeFuncBox
import Derived.Shelf.Abstract
import Derived.Shelf.RegionOpen
import Derived.OwnWalkIn
import Derived.TacticsInMore
import Derived.LoopNIn
import Derived.LoopIn
import Derived.WalkSpells
import Derived.Test.YtdhabfjfpbdjfaaPr0
import Derived.Test.YtdhabfjfpbdjfaaLk12
namespace Go.Proofs.Ytdhabfjfpbdjfaa.Pr
open Go.RowKit Go.Shelf Go.Proofs.YtdhabfjfpbdjfaaW.PrintWords Go.Proofs.YtdhabfjfpbdjfaaW.PrintLast Go.Proofs.YtdhabfjfpbdjfaaW.PrintMore
set_option linter.unusedVariables false
set_option linter.unusedSimpArgs false
section
attribute [local go_sem] Oper.semAt_some
set_option maxRecDepth 100000 in
set_option maxHeartbeats 8000000 in
theorem Free_bad [Obs] (gl : Nat) (who : Int) (key : ByteArray) (B clk : Nat) (S : List LRec) (w0 w : World) (hA : LockAt w w0.heap.size gl B clk S) (hB : Below w0.heap.size w0 w) (hs : SmallP (S.map projR)) (hcli : ¬ okC who)  :
    Calls Try.prog 12 #[.pointer (some ⟨gl, 0, none⟩), .int .i64 who, .string key] w fun e w' => ∃ v, e = .returned (.tuple #[v, .int .i64 2]) ∧ Kd.R (Kd.int .i64) 3 w' w0.heap.size (fun k => Obs.lim ≤ k) v [] ∧ LocksAt w' w0.heap.size gl (S.map projR) ∧ Below w0.heap.size w0 w' := by
  have HCL := Aside0.mk (show w.cell? ⟨gl, 0, none⟩ = some (.map (some B)) from (blk_cell hA.1 0).trans rfl)
  have HB0 := Aside0.mk hB
  have HA := Aside0.mk hA
  have qMN : ∀ (w : World) (r : Option Nat), (binOp .eql 49 (.map r) (.map none)).run Try.prog w = .ok (.bool r.isNone) w := fun w r => run_eql_map_nil w _ _ _ r Try.underlying49
  have HW := Aside0.mk (below_alloc (Below.refl w.heap.size w) (.cells #[.int .i64 who] 3 (0, 0)))
  have G5 := Aside0.mk (show (w.alloc (.cells #[.int .i64 who] 3 (0, 0))).heap[w.heap.size]? = some (cellW who) from blk_new w _)
  have hclw1 : (w.alloc (.cells #[.int .i64 who] 3 (0, 0))).cell? ⟨gl, 0, none⟩ = some (.map (some B)) := pw_cell_below HW.out HCL.out
  have hg4w1 : (w.alloc (.cells #[.int .i64 who] 3 (0, 0))).cell? ⟨w.heap.size, 0, none⟩ = some (.int .i64 who) := (blk_cell G5.out 0).trans rfl
  have HCLI := Aside0.mk (client_no hcli)
  clear hA hB hs hcli
  go_enter Try.func12, Try.ntmps12
  go_wp2_with (first
        | (go_at_call 21; refine (locks_client.calls who false _ HCLI.out).mono ?_; rintro e_ w2 ⟨rfl, hd⟩; have hb := hd.below; clear hd; have n0 := Aside0.mk (below_then HW.out HW.out.size hb); have n1 := Aside0.mk (blk_below G5.out hb); clear HW G5; have HW := n0; have G5 := n1; clear n0 n1; clear hb; clear hclw1 hg4w1)
        )
  go_ret2
  exact ⟨_, rfl, Kd.R_nil _ _ _ _ _, ⟨B, clk, S, HA.out.below HW.out, rfl⟩, below_then HB0.out HB0.out.size HW.out⟩
set_option maxRecDepth 100000 in
set_option maxHeartbeats 8000000 in
theorem Free_none [Obs] (gl : Nat) (who : Int) (key : ByteArray) (B clk : Nat) (S : List LRec) (w0 w : World) (hA : LockAt w w0.heap.size gl B clk S) (hB : Below w0.heap.size w0 w) (hs : SmallP (S.map projR)) (hcli : okC who) (hf : findE key S 0 = none) :
    Calls Try.prog 12 #[.pointer (some ⟨gl, 0, none⟩), .int .i64 who, .string key] w fun e w' => ∃ v, e = .returned (.tuple #[v, .int .i64 9]) ∧ Kd.R (Kd.int .i64) 3 w' w0.heap.size (fun k => Obs.lim ≤ k) v [] ∧ LocksAt w' w0.heap.size gl (S.map projR) ∧ Below w0.heap.size w0 w' := by
  have HCL := Aside0.mk (show w.cell? ⟨gl, 0, none⟩ = some (.map (some B)) from (blk_cell hA.1 0).trans rfl)
  have HB0 := Aside0.mk hB
  have HA := Aside0.mk hA
  have qMN : ∀ (w : World) (r : Option Nat), (binOp .eql 49 (.map r) (.map none)).run Try.prog w = .ok (.bool r.isNone) w := fun w r => run_eql_map_nil w _ _ _ r Try.underlying49
  have HW := Aside0.mk (below_alloc (Below.refl w.heap.size w) (.cells #[.int .i64 who] 3 (0, 0)))
  have G5 := Aside0.mk (show (w.alloc (.cells #[.int .i64 who] 3 (0, 0))).heap[w.heap.size]? = some (cellW who) from blk_new w _)
  have hclw1 : (w.alloc (.cells #[.int .i64 who] 3 (0, 0))).cell? ⟨gl, 0, none⟩ = some (.map (some B)) := pw_cell_below HW.out HCL.out
  have hg4w1 : (w.alloc (.cells #[.int .i64 who] 3 (0, 0))).cell? ⟨w.heap.size, 0, none⟩ = some (.int .i64 who) := (blk_cell G5.out 0).trans rfl
  have HCLI := Aside0.mk (client_yes hcli)
  have HLK := Aside0.mk (fun (W : World) (hb : Below w.heap.size w W) => (show (Instr.lookup 49 (.map (some B)) (.string key) false).run Try.prog W = .ok (.pointer none) W from by
    have h1 := run_look W key (hA.below hb).2.2.1
    unfold lookV at h1
    rw [hf] at h1
    exact h1))
  clear hA hB hs hcli hf
  go_enter Try.func12, Try.ntmps12
  go_wp2_with (first
        | (go_at_call 21; refine (locks_client.calls who true _ HCLI.out).mono ?_; rintro e_ w2 ⟨rfl, hd⟩; have hb := hd.below; clear hd; have n0 := Aside0.mk (below_then HW.out HW.out.size hb); have n1 := Aside0.mk (blk_below G5.out hb); clear HW G5; have HW := n0; have G5 := n1; clear n0 n1; clear hb; clear hclw1 hg4w1; have hclw2 := pw_cell_below HW.out HCL.out; have hg4w2 : w2.cell? ⟨w.heap.size, 0, none⟩ = some (.int .i64 who) := (blk_cell G5.out 0).trans rfl; have hlk := HLK.out _ HW.out)
        )
  go_ret2
  exact ⟨_, rfl, Kd.R_nil _ _ _ _ _, ⟨B, clk, S, HA.out.below HW.out, rfl⟩, below_then HB0.out HB0.out.size HW.out⟩
set_option maxRecDepth 100000 in
set_option maxHeartbeats 8000000 in
theorem Free_not [Obs] (gl : Nat) (who : Int) (key : ByteArray) (B clk : Nat) (S : List LRec) (w0 w : World) (hA : LockAt w w0.heap.size gl B clk S) (hB : Below w0.heap.size w0 w) (hs : SmallP (S.map projR)) (hcli : okC who) (S1 S2 : List LRec) (r : LRec) (hS : S = S1 ++ r :: S2) (hk : r.key = key) (hn : ∀ s ∈ S1, s.key ≠ key) (hh : hasF r.h who = false) :
    Calls Try.prog 12 #[.pointer (some ⟨gl, 0, none⟩), .int .i64 who, .string key] w fun e w' => ∃ v, e = .returned (.tuple #[v, .int .i64 9]) ∧ Kd.R (Kd.int .i64) 3 w' w0.heap.size (fun k => Obs.lim ≤ k) v [] ∧ LocksAt w' w0.heap.size gl (S.map projR) ∧ Below w0.heap.size w0 w' := by
  subst hS
  have HCL := Aside0.mk (show w.cell? ⟨gl, 0, none⟩ = some (.map (some B)) from (blk_cell hA.1 0).trans rfl)
  have HB0 := Aside0.mk hB
  have HA := Aside0.mk hA
  have qMN : ∀ (w : World) (r : Option Nat), (binOp .eql 49 (.map r) (.map none)).run Try.prog w = .ok (.bool r.isNone) w := fun w r => run_eql_map_nil w _ _ _ r Try.underlying49
  have HW := Aside0.mk (below_alloc (Below.refl w.heap.size w) (.cells #[.int .i64 who] 3 (0, 0)))
  have G5 := Aside0.mk (show (w.alloc (.cells #[.int .i64 who] 3 (0, 0))).heap[w.heap.size]? = some (cellW who) from blk_new w _)
  have hclw1 : (w.alloc (.cells #[.int .i64 who] 3 (0, 0))).cell? ⟨gl, 0, none⟩ = some (.map (some B)) := pw_cell_below HW.out HCL.out
  have hg4w1 : (w.alloc (.cells #[.int .i64 who] 3 (0, 0))).cell? ⟨w.heap.size, 0, none⟩ = some (.int .i64 who) := (blk_cell G5.out 0).trans rfl
  have HCLI := Aside0.mk (client_yes hcli)
  have HR := Aside0.mk (hA.2.2.2.2.1 r (by simp))
  have hsm := hs (projR r) (List.mem_map.2 ⟨r, by simp, rfl⟩)
  have HLH := Aside0.mk (show r.h.length ≤ 100000 by have := hsm.1; unfold projR at this; dsimp only at this; omega)
  have HLW := Aside0.mk (show r.w.length ≤ 100000 by have := hsm.2; unfold projR at this; dsimp only at this; omega)
  have HLK := Aside0.mk (fun (W : World) (hb : Below w.heap.size w W) => (show (Instr.lookup 49 (.map (some B)) (.string key) false).run Try.prog W = .ok (.pointer (some ⟨r.g, 0, none⟩)) W from by
    have h1 := run_look W key (hA.below hb).2.2.1
    have h2 := look_ptr hk hn (S2 := S2)
    rw [h2] at h1
    exact h1))
  have HK := Aside0.mk hk
  have HN := Aside0.mk hn
  clear hA hB hs hcli hsm hk hn
  go_enter Try.func12, Try.ntmps12
  go_wp2_with (first
        | (go_at_call 21; refine (locks_client.calls who true _ HCLI.out).mono ?_; rintro e_ w2 ⟨rfl, hd⟩; have hb := hd.below; clear hd; have n0 := Aside0.mk (below_then HW.out HW.out.size hb); have n1 := Aside0.mk (blk_below G5.out hb); clear HW G5; have HW := n0; have G5 := n1; clear n0 n1; clear hb; clear hclw1 hg4w1; have hclw2 := pw_cell_below HW.out HCL.out; have hg4w2 : w2.cell? ⟨w.heap.size, 0, none⟩ = some (.int .i64 who) := (blk_cell G5.out 0).trans rfl; have hlk := HLK.out _ HW.out)
        | ((go_at_call 23); refine (has_free1_h (HR.out.below HW.out) w.heap.size who (by have := HLH.out; omega) G5.out).mono ?_; rintro e_ w6 ⟨rfl, hb⟩; have n0 := Aside0.mk (below_then HW.out HW.out.size hb); have n1 := Aside0.mk (blk_below G5.out hb); clear HW G5; have HW := n0; have G5 := n1; clear n0 n1; clear hb)
        )
  go_ret2
  exact ⟨_, rfl, Kd.R_nil _ _ _ _ _, ⟨B, clk, _, HA.out.below HW.out, rfl⟩, below_then HB0.out HB0.out.size HW.out⟩

def lenV : Value → Nat
  | .slice _ n _ => n
  | _ => 0
def GrantTo (h0 w0 h w : List S63) (now : List Int) : Prop := (grantF h0 w0 = ((grantF h w).1, (grantF h w).2.1, now ++ (grantF h w).2.2)) ∧ h.length + w.length ≤ 200000 ∧ now.length + w.length = w0.length
theorem GrantTo.start {h0 w0 : List S63} (hl : h0.length + w0.length ≤ 200000) : GrantTo h0 w0 h0 w0 [] := ⟨rfl, hl, by simp⟩
theorem GrantTo.step {h0 w0 h wt : List S63} {a : S63} {now : List Int} (g : GrantTo h0 w0 h (a :: wt) now) (hm : mayF h a.f1 = true) : GrantTo h0 w0 (h ++ [a]) wt (now ++ [a.f0]) := by
  obtain ⟨g1, g2, g3⟩ := g
  refine ⟨?_, by simp at g2 ⊢; omega, by simp at g3 ⊢; omega⟩
  rw [g1, grantF, if_pos hm]
  simp
theorem GrantTo.end0 {h0 w0 h : List S63} {now : List Int} (g : GrantTo h0 w0 h [] now) : grantF h0 w0 = (h, [], now) := by
  rw [g.1, grantF, List.append_nil]
theorem GrantTo.end1 {h0 w0 h wt : List S63} {a : S63} {now : List Int} (g : GrantTo h0 w0 h (a :: wt) now) (hm : mayF h a.f1 = false) : grantF h0 w0 = (h, a :: wt, now) := by
  rw [g.1, grantF, if_neg (by rw [hm]; decide), List.append_nil]
theorem free_keep {key : ByteArray} {S1 S2 : List LRec} {r r' : LRec} {who : Int} {ys : List S63} {now : List Int} (hy : notF r.h who = ys) (hg : grantF ys r.w = (r'.h, r'.w, now)) (hne : r'.h.isEmpty = false) (hk : r.key = key) (hk' : r'.key = key) (hn : ∀ s ∈ S1, s.key ≠ key) :
    (if (grantF (notF r.h who) r.w).1.isEmpty then delP key ((S1 ++ r :: S2).map projR) else setP key ((grantF (notF r.h who) r.w).1, (grantF (notF r.h who) r.w).2.1) ((S1 ++ r :: S2).map projR)) = (S1 ++ r' :: S2).map projR ∧ (grantF (notF r.h who) r.w).2.2 = now := by
  rw [hy, hg]
  dsimp only
  rw [if_neg (by rw [hne]; decide)]
  exact ⟨set_some hk hk' hn, rfl⟩
theorem free_drop {key : ByteArray} {S1 S2 : List LRec} {r r' : LRec} {who : Int} {ys : List S63} {now : List Int} (hy : notF r.h who = ys) (hg : grantF ys r.w = (r'.h, [], now)) (hne : r'.h = []) (hk : r.key = key) (hn : ∀ s ∈ S1, s.key ≠ key) :
    (if (grantF (notF r.h who) r.w).1.isEmpty then delP key ((S1 ++ r :: S2).map projR) else setP key ((grantF (notF r.h who) r.w).1, (grantF (notF r.h who) r.w).2.1) ((S1 ++ r :: S2).map projR)) = (S1 ++ S2).map projR ∧ (grantF (notF r.h who) r.w).2.2 = now := by
  rw [hy, hg, hne]
  dsimp only
  rw [if_pos (show ([] : List S63).isEmpty = true from rfl)]
  exact ⟨del_some hk hn, rfl⟩
/-- A row of numbers of one's own has been written: the locks lie as they lay. -/
theorem RecAt.ints {W W' : World} {base base2 : Nat} {r : LRec} {v : Value} {xs : List Int} {ok : Nat → Prop} (h : RecAt W base r) (hO : Kd.R (Kd.int .i64) 3 W base2 ok v xs) (hg : W.grownBy W' v.ownBlock) : RecAt W' base r :=
  h.kept (X := fun k => v.ownBlock = some k) ⟨hg.size, fun i hi hne => hg.block i hi (fun e => hne e.symm)⟩ (fun k hk e => by
    obtain ⟨_, c, q, hq, hc⟩ := h.typed hk
    obtain ⟨c2, hc2⟩ := Kd.R_typed hO k e
    rw [hc] at hc2
    injection hc2 with hc2
    injection hc2 with _ hc2 _
    rcases hq with rfl | rfl <;> exact absurd hc2 (by decide))
theorem LockAt.ints [Obs] {W W' : World} {base gl B clk base2 : Nat} {S : List LRec} {v : Value} {xs : List Int} (h : LockAt W base gl B clk S) (hO : Kd.R (Kd.int .i64) 3 W base2 (fun k => Obs.lim ≤ k) v xs) (hg : W.grownBy W' v.ownBlock) : LockAt W' base gl B clk S :=
  h.kept (X := fun k => v.ownBlock = some k) ⟨hg.size, fun i hi hne => hg.block i hi (fun e => hne e.symm)⟩ (fun e => by
      obtain ⟨c2, hc2⟩ := Kd.R_typed hO gl e
      rw [h.1] at hc2
      injection hc2 with hc2
      injection hc2 with _ hc2 _
      exact absurd hc2 (by decide)) (fun e => by
      obtain ⟨c2, hc2⟩ := Kd.R_typed hO B e
      rw [h.2.2.1] at hc2
      injection hc2 with hc2
      cases hc2) (fun r hr k hk e => by
      obtain ⟨_, c, q, hq, hc⟩ := (h.2.2.2.2.1 r hr).typed hk
      obtain ⟨c2, hc2⟩ := Kd.R_typed hO k e
      rw [hc] at hc2
      injection hc2 with hc2
      injection hc2 with _ hc2 _
      rcases hq with rfl | rfl <;> exact absurd hc2 (by decide)) (fun k o ho _ _ e => by
      have h1 := (h.2.2.2.2.2.2.1 k o ho).1
      have h2 := hO.1 k e
      omega)
theorem ints_map [Obs] {W : World} {base gl B clk base2 : Nat} {S : List LRec} {v : Value} {xs : List Int} {ok : Nat → Prop} (hO : Kd.R (Kd.int .i64) 3 W base2 ok v xs) (h : LockAt W base gl B clk S) (o : Obj) : Kd.R (Kd.int .i64) 3 (W.putObj B o) base2 ok v xs :=
  Kd.R_mono (Kd.R_kept (Kd.R_tight2 rfl hO) (putObj_kept W B o) (fun k e hb => by
    obtain ⟨c2, hc2⟩ := Kd.R_typed hO k e.1.symm
    rw [hb, h.2.2.1] at hc2
    injection hc2 with hc2
    cases hc2)) (fun _ h => h.2)
/-- A row of numbers lies on where a lock turns. -/
theorem ints_rec {W W' : World} {base base2 : Nat} {r : LRec} {v : Value} {xs : List Int} {ok : Nat → Prop} (hO : Kd.R (Kd.int .i64) 3 W base2 ok v xs) (h : RecAt W base r) (hk : Kept W W' r.bs) : Kd.R (Kd.int .i64) 3 W' base2 ok v xs :=
  Kd.R_mono (Kd.R_kept (Kd.R_tight2 rfl hO) hk (fun k e hb => by
    obtain ⟨_, c, q, hq, hc⟩ := h.typed hb
    obtain ⟨c2, hc2⟩ := Kd.R_typed hO k e.1.symm
    rw [hc] at hc2
    injection hc2 with hc2
    injection hc2 with _ hc2 _
    rcases hq with rfl | rfl <;> exact absurd hc2 (by decide))) (fun _ h => h.2)
set_option maxRecDepth 100000 in
set_option maxHeartbeats 8000000 in
theorem Free_go [Obs] (gl : Nat) (who : Int) (key : ByteArray) (B clk : Nat) (S : List LRec) (w0 w : World) (hA : LockAt w w0.heap.size gl B clk S) (hB : Below w0.heap.size w0 w) (hs : SmallP (S.map projR)) (hcli : okC who) (S1 S2 : List LRec) (r : LRec) (hS : S = S1 ++ r :: S2) (hk : r.key = key) (hn : ∀ s ∈ S1, s.key ≠ key) (hh : hasF r.h who = true) (now' : List Int) (P' : LP) (hnow : (grantF (notF r.h who) r.w).2.2 = now') (hP : (if (grantF (notF r.h who) r.w).1.isEmpty then delP key (S.map projR) else setP key ((grantF (notF r.h who) r.w).1, (grantF (notF r.h who) r.w).2.1) (S.map projR)) = P') :
    Calls Try.prog 12 #[.pointer (some ⟨gl, 0, none⟩), .int .i64 who, .string key] w fun e w' => ∃ v, e = .returned (.tuple #[v, .int .i64 0]) ∧ Kd.R (Kd.int .i64) 3 w' w0.heap.size (fun k => Obs.lim ≤ k) v now' ∧ LocksAt w' w0.heap.size gl (P') ∧ Below w0.heap.size w0 w' := by
  subst hS
  have HNOW := Aside0.mk hnow
  have HPP := Aside0.mk hP
  clear hnow hP
  have HCL := Aside0.mk (show w.cell? ⟨gl, 0, none⟩ = some (.map (some B)) from (blk_cell hA.1 0).trans rfl)
  have HB0 := Aside0.mk hB
  have HA := Aside0.mk hA
  have qMN : ∀ (w : World) (r : Option Nat), (binOp .eql 49 (.map r) (.map none)).run Try.prog w = .ok (.bool r.isNone) w := fun w r => run_eql_map_nil w _ _ _ r Try.underlying49
  have HW := Aside0.mk (below_alloc (Below.refl w.heap.size w) (.cells #[.int .i64 who] 3 (0, 0)))
  have G5 := Aside0.mk (show (w.alloc (.cells #[.int .i64 who] 3 (0, 0))).heap[w.heap.size]? = some (cellW who) from blk_new w _)
  have hclw1 : (w.alloc (.cells #[.int .i64 who] 3 (0, 0))).cell? ⟨gl, 0, none⟩ = some (.map (some B)) := pw_cell_below HW.out HCL.out
  have hg4w1 : (w.alloc (.cells #[.int .i64 who] 3 (0, 0))).cell? ⟨w.heap.size, 0, none⟩ = some (.int .i64 who) := (blk_cell G5.out 0).trans rfl
  have HCLI := Aside0.mk (client_yes hcli)
  have HR := Aside0.mk (hA.2.2.2.2.1 r (by simp))
  have hsm := hs (projR r) (List.mem_map.2 ⟨r, by simp, rfl⟩)
  have HLH := Aside0.mk (show r.h.length ≤ 100000 by have := hsm.1; unfold projR at this; dsimp only at this; omega)
  have HLW := Aside0.mk (show r.w.length ≤ 100000 by have := hsm.2; unfold projR at this; dsimp only at this; omega)
  have HLK := Aside0.mk (fun (W : World) (hb : Below w.heap.size w W) => (show (Instr.lookup 49 (.map (some B)) (.string key) false).run Try.prog W = .ok (.pointer (some ⟨r.g, 0, none⟩)) W from by
    have h1 := run_look W key (hA.below hb).2.2.1
    have h2 := look_ptr hk hn (S2 := S2)
    rw [h2] at h1
    exact h1))
  have HK := Aside0.mk hk
  have HN := Aside0.mk hn
  clear hA hB hs hcli hsm hk hn
  go_enter Try.func12, Try.ntmps12
  go_upto_region 9 with (first
        | (go_at_call 21; refine (locks_client.calls who true _ HCLI.out).mono ?_; rintro e_ w2 ⟨rfl, hd⟩; have hb := hd.below; clear hd; have n0 := Aside0.mk (below_then HW.out HW.out.size hb); have n1 := Aside0.mk (blk_below G5.out hb); clear HW G5; have HW := n0; have G5 := n1; clear n0 n1; clear hb; clear hclw1 hg4w1; have hclw2 := pw_cell_below HW.out HCL.out; have hg4w2 : w2.cell? ⟨w.heap.size, 0, none⟩ = some (.int .i64 who) := (blk_cell G5.out 0).trans rfl; have hlk := HLK.out _ HW.out)
        | ((go_at_call 23); refine (has_free1_h (HR.out.below HW.out) w.heap.size who (by have := HLH.out; omega) G5.out).mono ?_; rintro e_ w6 ⟨rfl, hb⟩; have n0 := Aside0.mk (below_then HW.out HW.out.size hb); have n1 := Aside0.mk (blk_below G5.out hb); clear HW G5; have HW := n0; have G5 := n1; clear n0 n1; clear hb; clear hclw2 hg4w2; clear hlk)
        )
  have n0 := Aside0.mk (HA.out.below HW.out)
  have n1 := Aside0.mk (HR.out.below HW.out)
  have n2 := Aside0.mk (below_then HB0.out HB0.out.size HW.out)
  clear HA HR
  have HA := n0
  have HR := n1
  have HBW := n2
  clear n0 n1 n2
  clear HW HLK HB0
  obtain ⟨A, c, eh, _, _, _, hqh, _⟩ := HR.out.holds_
  have HO := Aside0.mk HR.out.2.2.1
  rw [eh] at HO
  have EH := Aside0.mk eh
  clear eh
  go_upto_region 10 with (first
        | (go_at_call 24; refine (del_calls w.heap.size (.slice A r.h.length c) r.h who w0.heap.size (fun _ => True) _ HO.out G5.out (by have := HLH.out; omega)).mono ?_; rintro e_ w7 ⟨v7, rfl, ho, hg, hown⟩; have hz : w7.heap[r.g]? = some (.cells #[r.vh, r.vw] 60 (0, 0)) := blk_grown HR.out.1 hg (by rw [← EH.out]; exact Kd.R_ne HR.out.2.2.1 HR.out.1 (by decide)); have hbw := pw_below_grown HBW.out _ HBW.out.size hg (fun k e => Kd.R_base HO.out k e); rw [← EH.out] at hg hown; obtain ⟨ys, hys⟩ : ∃ ys, notF r.h who = ys := ⟨_, rfl⟩; rw [hys] at ho; obtain ⟨A7, c7, e7⟩ := Kd.R_slice ho; subst e7; have HS := Aside0.mk (HR.out.setH (Below.refl w6.heap.size w6) ho hg (.inl hown)); have HYS := Aside0.mk hys; have HB7 := Aside0.mk hbw; have hz0 : w7.cell? ⟨r.g, 0, none⟩ = some r.vh := (blk_cell hz 0).trans rfl; have hf0 := blk_frozen hz 0; clear ho hg hown hys hbw hz hqh)
        )
  clear hz0 hf0
  obtain ⟨u1, u2, u3⟩ := HS.out
  have n0 := Aside0.mk (HA.out.upd u2 u1 rfl rfl rfl u3)
  have n1 := Aside0.mk (HB7.out.setCell (p := ⟨r.g, 0, none⟩) HR.out.2.1 (Value.slice A7 ys.length c7))
  have n2 := Aside0.mk u1
  have HGT := Aside0.mk (GrantTo.start (h0 := ys) (w0 := r.w) (by rw [← HYS.out]; have h1 := HLH.out; have h2 := HLW.out; have h3 := List.length_filter_le (fun x : S63 => decide (x.f0 ≠ who)) r.h; unfold notF; omega))
  have HBR := Aside0.mk HR.out.2.1
  clear u1 u2 u3 HS HB7 HA HR HBW HO EH G5
  generalize (w7.setCell ⟨r.g, 0, none⟩ (Value.slice A7 ys.length c7)) = w8 at n0 n1 n2 ⊢
  go_wp2
  go_loopw [10] (fun x10 w' => ∃ (r' : LRec) (now : List Int) (A10 : Option Addr) (c10 : Nat), x10 = .slice A10 now.length c10 ∧ Aside0 (r'.g = r.g ∧ r'.key = key) ∧ Aside0 (LockAt w' w0.heap.size gl B clk (S1 ++ r' :: S2)) ∧ Aside0 (RecAt w' w0.heap.size r') ∧ Aside0 (Below w0.heap.size w0 w') ∧ Aside0 (Kd.R (Kd.int .i64) 3 w' w0.heap.size (fun k => Obs.lim ≤ k) (.slice A10 now.length c10) now) ∧ Aside0 (GrantTo ys r.w r'.h r'.w now)) (fun x10 _ => r.w.length + 1 - lenV x10)
  case atStart => exact ⟨r.setH _ ys, [], none, 0, rfl, ⟨⟨rfl, HK.out⟩⟩, n0, n2, n1, ⟨Kd.R_nil _ _ _ _ _⟩, HGT⟩
  case round =>
    clear n0 n1 n2 HGT
    obtain ⟨r', now, A10, c10, rfl, HG, HA, HR, HBW, HO, HGT⟩ := hrel
    obtain ⟨A1, c1, ew, hlw, hcw, hbw, hqw, _⟩ := HR.out.waits_
    rw [HG.out.1] at hqw
    have hgt := HGT.out.2.1
    obtain ⟨A, c, eh, hlh, hch, hbh, hqh, _⟩ := HR.out.holds_
    rw [HG.out.1] at hqh
    have HC := Aside0.mk hch
    have HM := Aside0.mk (show ∀ b : Bool, Calls Try.prog 25 #[.pointer (some ⟨r.g, 0, none⟩), .bool b] wr fun e w' => e = .returned (.bool (mayF r'.h b)) ∧ w' = wr from fun b => by have := may_r HR.out b; rwa [HG.out.1] at this)
    have HEH := Aside0.mk eh
    have HEW := Aside0.mk ew
    clear eh ew hlh hch hbh
    cases hwl : r'.w with
    | nil =>
      replace hqw : wr.cell? ⟨r.g, 1, none⟩ = some (.slice A1 0 c1) := by rw [hqw, hwl]; rfl
      clear hlw hcw hbw hgt
      have HGT0 := Aside0.mk (show grantF ys r.w = (r'.h, [], now) by have := HGT.out; rw [hwl] at this; exact this.end0)
      have HWL := Aside0.mk hwl
      clear hwl HGT
      by_cases hz : r'.h.length = 0
      · have hhe : r'.h = [] := List.eq_nil_of_length_eq_zero hz
        replace hqh : wr.cell? ⟨r.g, 0, none⟩ = some (.slice A 0 c) := by rw [hqh, hhe]; rfl
        have hcl : wr.cell? ⟨gl, 0, none⟩ = some (.map (some B)) := (blk_cell HA.out.1 0).trans rfl
        have hdel := run_del wr (S1 := S1) (S2 := S2) (r := r') HA.out.2.2.1 (by rw [HG.out.2]; exact HN.out)
        rw [HG.out.2] at hdel
        obtain ⟨ob, hob⟩ : ∃ ob, Obj.map ((S1 ++ S2).map entOf).toArray clk = ob := ⟨_, rfl⟩
        rw [hob] at hdel
        have HOB := Aside0.mk hob
        have HHE := Aside0.mk hhe
        clear hz hhe hob
        go_wp2
        go_ret2
        obtain ⟨k1, k2⟩ := free_drop (S2 := S2) HYS.out HGT0.out HHE.out HK.out HN.out
        exact ⟨_, rfl, (by rw [← HNOW.out, k2]; exact ints_map HO.out HA.out _), ⟨B, clk, S1 ++ S2, HA.out.del (putObj_kept _ _ _) (by rw [← HOB.out]; exact putObj_new _ (blk_lt HA.out.2.2.1) _), (k1.symm.trans HPP.out)⟩, pw_below_grown HBW.out (some B) HBW.out.size (grownBy_putObj' _ B _) (fun k e => by injection e with e; subst e; exact HA.out.2.2.2.1)⟩
      · have hne : r'.h.isEmpty = false := by cases hh2 : r'.h with | nil => rw [hh2] at hz; exact absurd rfl hz | cons x l => rfl
        have hzb : ((r'.h.length : Int) == 0) = false := beq_eq_false_iff_ne.mpr (by omega)
        have hzd : (r'.h.length == 0) = false := beq_eq_false_iff_ne.mpr hz
        have hzc := eq_false hz
        have HNE := Aside0.mk hne
        clear hz hne
        go_wp2
        go_ret2
        obtain ⟨k1, k2⟩ := free_keep (S2 := S2) (r' := r') HYS.out (by rw [HWL.out]; exact HGT0.out) HNE.out HK.out HG.out.2 HN.out
        exact ⟨_, rfl, (by rw [← HNOW.out, k2]; exact HO.out), ⟨B, clk, _, HA.out, (k1.symm.trans HPP.out)⟩, HBW.out⟩
    | cons a wt =>
      obtain ⟨a0, a1⟩ := a
      obtain ⟨ad, ea, hx0, hx1⟩ := at_T63 hcw 0 (by omega) (by rw [hwl, List.length_cons]; omega)
      rw [show ((0 : Int)).toNat = 0 from rfl, show 0 * 2 = 0 from rfl, Addr.add_zero'] at hx0 hx1
      rw [hwl] at hx0 hx1
      replace hx0 : wr.cell? ad = some (.int .i64 a0) := hx0
      replace hx1 : wr.cell? ⟨ad.block, ad.off + 1, none⟩ = some (.bool a1) := hx1
      subst ea
      obtain ⟨n, hn⟩ : ∃ n, wt.length = n := ⟨_, rfl⟩
      have hwn : r'.w.length = n + 1 := by rw [hwl, List.length_cons, hn]
      rw [hwn] at hqw
      have z0 := eq_true (show (0 : Int) < ((n + 1 : Nat) : Int) by omega)
      have z1 := eq_true (show 0 < n + 1 by omega)
      have HGC := Aside0.mk (show GrantTo ys r.w r'.h (⟨a0, a1⟩ :: wt) now by have := HGT.out; rwa [hwl] at this)
      have HWL := Aside0.mk hwl
      have HWN := Aside0.mk hwn
      have HCAP := Aside0.mk hlw
      have HTN := Aside0.mk hn
      clear HGT hwl hcw hbw hgt hwn hn hlw
      by_cases hm : mayF r'.h a1 = true
      · have HMY := Aside0.mk hm
        obtain ⟨i0, hi0, _, hsz0, _⟩ := info_parts info63
        obtain ⟨A', hA'⟩ : ∃ A', (if c1 = 1 then some ad else (some ad).map (·.add (1 * 2))) = A' := ⟨_, rfl⟩
        have hcut := cut_from (P := Try.prog) 56 63 .i64 Try.underlying56 hi0 2 hsz0 (some ad) (n + 1) c1 1 (by omega) (by omega)
        rw [show ((1 : Int)).toNat = 1 from rfl, hA', Nat.add_sub_cancel] at hcut
        have hQ := Kd.Q_drop (k := 1) (show Kd.Q k63 63 wr w0.heap.size (fun _ => True) (.slice (some ad) r'.w.length c1) r'.w by rw [← HEW.out]; exact HR.out.2.2.2.1) (by have := HWN.out; omega)
        rw [HWN.out, Nat.add_sub_cancel, show (k63).sz = 2 from rfl, hA', HWL.out] at hQ
        have HQD := Aside0.mk (show Kd.Q k63 63 wr w0.heap.size (fun _ => True) (.slice A' n (c1 - 1)) wt from hQ)
        have HAO := Aside0.mk (show (Value.slice A' n (c1 - 1)).ownBlock = r'.vw.ownBlock by rw [HEW.out, ← hA']; by_cases h1 : c1 = 1; rw [if_pos h1]; rfl; rw [if_neg h1]; show some (ad.add (1 * 2)).block = some ad.block; rw [add_block])
        have hba := below_alloc (Below.refl wr.heap.size wr) (.cells #[.int .i64 a0, .bool a1] 63 (0, 0))
        have hqwa : (wr.alloc (.cells #[.int .i64 a0, .bool a1] 63 (0, 0))).cell? ⟨r.g, 1, none⟩ = some (.slice (some ad) (n + 1) c1) := pw_cell_below hba hqw
        have hfa : (wr.alloc (.cells #[.int .i64 a0, .bool a1] 63 (0, 0))).frozen? ⟨r.g, 1, none⟩ = false := by have := blk_frozen (blk_below HR.out.1 hba) 1; rwa [HG.out.1] at this
        clear hQ hA' hi0 hsz0 hba hqh
        go_upto_region 14 with (go_at_call 25; refine (HM.out a1).mono ?_; rintro e_ w9 ⟨rfl, hw9⟩; have hw9 := hw9.symm; subst hw9)
        have hba := below_alloc (Below.refl wr.heap.size wr) (.cells #[.int .i64 a0, .bool a1] 63 (0, 0))
        have hs1 := HR.out.setW hba (v1 := .slice A' n (c1 - 1)) (w1 := wt) (Kd.Q_below HQD.out hba) (World.grownBy.refl _ _) (.inl HAO.out)
        rw [HG.out.1] at hs1
        obtain ⟨u1, u2, u3⟩ := hs1
        have n0 := Aside0.mk (HA.out.upd u2 u1 rfl rfl rfl u3)
        have n1 := Aside0.mk u1
        have n2 := Aside0.mk ((HBW.out.alloc HBW.out.size (.cells #[.int .i64 a0, .bool a1] 63 (0, 0))).setCell (p := ⟨r.g, 1, none⟩) HBR.out (Value.slice A' n (c1 - 1)))
        have n3 := Aside0.mk (ints_rec HO.out HR.out u2)
        have hlt : r.g < wr.heap.size := by have := HR.out.lt; rwa [HG.out.1] at this
        have n4 := Aside0.mk (blk_far (p := ⟨r.g, 1, none⟩) (blk_new wr (.cells #[.int .i64 a0, .bool a1] 63 (0, 0))) (show wr.heap.size ≠ r.g by omega) (Value.slice A' n (c1 - 1)))
        have n5 := Aside0.mk (show ¬ (r'.setW (.slice A' n (c1 - 1)) wt).bs wr.heap.size from fun h => by
            have hl : ∀ k, r'.bs k → k < wr.heap.size := fun k hk => by obtain ⟨_, c, q, _, hc⟩ := HR.out.typed hk; exact blk_lt hc
            rcases h with h | h | h
            · have := hl r'.g (.inl rfl); have h2 : wr.heap.size = r'.g := h; omega
            · have := hl _ (.inr (.inl h)); omega
            · have h2 : (Value.slice A' n (c1 - 1)).ownBlock = some wr.heap.size := h; rw [HAO.out] at h2; have := hl _ (.inr (.inr h2)); omega)
        have HG1 := Aside0.mk (show (r'.setW (.slice A' n (c1 - 1)) wt).g = r.g ∧ (r'.setW (.slice A' n (c1 - 1)) wt).key = key from HG.out)
        have HRH := Aside0.mk (show (r'.setW (.slice A' n (c1 - 1)) wt).h = r'.h from rfl)
        have HRW := Aside0.mk (show (r'.setW (.slice A' n (c1 - 1)) wt).w = wt from rfl)
        have HLN := Aside0.mk (show (r'.setW (.slice A' n (c1 - 1)) wt).h.length ≤ 200000 by have := HGC.out.2.1; show r'.h.length ≤ 200000; omega)
        clear u1 u2 u3 hba HA HR HBW HO HQD HAO HM HEH HEW HC hlt hqwa hfa hcut hqw hx0 hx1 HCAP HWN HWL
        obtain ⟨g11, hg11⟩ : ∃ g11, wr.heap.size = g11 := ⟨_, rfl⟩
        rw [hg11] at n4 n5 ⊢
        clear hg11
        generalize r'.setW (.slice A' n (c1 - 1)) wt = r1 at n0 n1 n5 HG1 HRH HRW HLN
        generalize ((wr.alloc (.cells #[.int .i64 a0, .bool a1] 63 (0, 0))).setCell ⟨r.g, 1, none⟩ (Value.slice A' n (c1 - 1))) = wq at n0 n1 n2 n3 n4 ⊢
        have hb := below_drew1 (Below.refl wq.heap.size wq)
        have HA := Aside0.mk (n0.out.below hb)
        have HR := Aside0.mk (n1.out.below hb)
        have HBW := Aside0.mk (below_then n2.out n2.out.size hb)
        have HO := Aside0.mk (Kd.R_below n3.out hb)
        have B11 := Aside0.mk (blk_below n4.out hb)
        have NB := n5
        clear n0 n1 n2 n3 n4 n5 hb
        obtain ⟨A2, c2, eh2, _, _, _, hq2, _⟩ := HR.out.holds_
        rw [HG1.out.1] at hq2
        have HQ := Aside0.mk hq2
        have HOH := Aside0.mk HR.out.2.2.1
        rw [eh2] at HOH
        have EH2 := Aside0.mk eh2
        have HBD := Aside0.mk (Below.refl wq.drew.heap.size wq.drew)
        clear eh2 hq2
        refine start_ (n := 13) (S := fun w' => w'.cell? ⟨r.g, 0, none⟩ = some (.slice A2 r1.h.length c2) ∧ w'.cell? ⟨g11, 0, none⟩ = some (.int .i64 a0) ∧ w'.cell? ⟨g11, 1, none⟩ = some (.bool a1)) (ds := [8, 12]) #[false, false, false, false, false, false, false, false, false, false, false, false, false] (by kernel_rfl) rfl rfl ⟨HQ.out, (blk_cell B11.out 0).trans rfl, (blk_cell B11.out 1).trans rfl⟩ (fun hHeld => ?_)
        generalize wq.drew = wd at HA HR HBW HO B11 HQ HOH HBD hHeld ⊢
        refine pure_ (i := 0) (N := some 90) (v := ?_) (a' := ?_) #[true, false, false, false, false, false, false, false, false, false, false, false, false] rfl rfl (by kernel_rfl) (fun _ _ _ h => h) (Or.inl ⟨by rfl, ?_⟩) ?_ ?_
        rotate_left
        · intro w'
          go_simp
          with_reducible rfl
        rotate_left
        · simp only [Act.put, List.setIfInBounds_toArray, List.set_cons_zero, List.set_cons_succ, i64_w, i32_w, u8_w]
          rfl
        refine pure_ (i := 1) (N := some 91) (v := ?_) (a' := ?_) #[true, true, false, false, false, false, false, false, false, false, false, false, false] rfl rfl (by kernel_rfl) (fun _ _ _ h => h) (Or.inl ⟨by rfl, ?_⟩) ?_ ?_
        rotate_left
        · intro w'
          go_simp
          with_reducible rfl
        rotate_left
        · simp only [Act.put, List.setIfInBounds_toArray, List.set_cons_zero, List.set_cons_succ, i64_w, i32_w, u8_w]
          rfl
        refine pure_ (i := 2) (N := some 92) (v := ?_) (a' := ?_) #[true, true, true, false, false, false, false, false, false, false, false, false, false] rfl rfl (by kernel_rfl) (fun _ _ _ h => h) (Or.inl ⟨by rfl, ?_⟩) ?_ ?_
        rotate_left
        · intro w'
          go_simp
          with_reducible rfl
        rotate_left
        · simp only [Act.put, List.setIfInBounds_toArray, List.set_cons_zero, List.set_cons_succ, i64_w, i32_w, u8_w]
          rfl
        refine pure_ (i := 3) (N := some 93) (v := ?_) (a' := ?_) #[true, true, true, true, false, false, false, false, false, false, false, false, false] rfl rfl (by kernel_rfl) (fun _ _ _ h => h) (Or.inl ⟨by rfl, ?_⟩) ?_ ?_
        rotate_left
        · intro w'
          go_simp
          with_reducible rfl
        rotate_left
        · simp only [Act.put, List.setIfInBounds_toArray, List.set_cons_zero, List.set_cons_succ, i64_w, i32_w, u8_w]
          rfl
        refine pure_ (i := 4) (N := some 94) (v := ?_) (a' := ?_) #[true, true, true, true, true, false, false, false, false, false, false, false, false] rfl rfl (by kernel_rfl) (fun _ _ _ h => h) (Or.inl ⟨by rfl, ?_⟩) ?_ ?_
        rotate_left
        · intro w'
          go_simp
          with_reducible rfl
        rotate_left
        · simp only [Act.put, List.setIfInBounds_toArray, List.set_cons_zero, List.set_cons_succ, i64_w, i32_w, u8_w]
          rfl
        refine take_ (i := 5) (N := some 95) (v := ?_) (a' := ?_) #[true, true, true, true, true, true, false, false, false, false, false, false, false] rfl rfl (by kernel_rfl) (fun _ _ _ h => h) (Or.inl ⟨by rfl, ?_⟩) hHeld ?_ ?_
        rotate_left
        · rintro w' ⟨s0, s1, s2⟩
          go_simp
          with_reducible rfl
        rotate_left
        · simp only [Act.put, List.setIfInBounds_toArray, List.set_cons_zero, List.set_cons_succ, i64_w, i32_w, u8_w]
          rfl
        refine take_ (i := 6) (N := some 96) (v := ?_) (a' := ?_) #[true, true, true, true, true, true, true, false, false, false, false, false, false] rfl rfl (by kernel_rfl) (fun _ _ _ h => h) (Or.inl ⟨by rfl, ?_⟩) hHeld ?_ ?_
        rotate_left
        · rintro w' ⟨s0, s1, s2⟩
          go_simp
          with_reducible rfl
        rotate_left
        · simp only [Act.put, List.setIfInBounds_toArray, List.set_cons_zero, List.set_cons_succ, i64_w, i32_w, u8_w]
          rfl
        refine one_ (i := 7) (N := some 97) #[true, true, true, true, true, true, true, true, false, false, false, false, false] rfl rfl (by kernel_rfl) (by decide) (fun K hK => ?_)
        refine Kd.R_lit_step k63 _ 63 ?hg (N := 97) ?hd (xs := ([⟨a0, a1⟩] : List S63)) (inner := [.int .i64 a0, .bool a1]) (ok := fun _ => True) (okp := fun _ => True) ?hr ?hp (fun _ hk => hk) trivial (Below.refl _ _) (Nat.le_refl _) (by simp) ?_; (case hd => rfl); (case hg => rfl); (case hr => first | (go_simp; done) | (go_simp; rfl)); (case hp => exact (Reps.snoc (Reps.none _ _) (k63_mkM _ _ _ ⟨a0, a1⟩) rfl))
        intro v97 w10 ho hb hg_ hnew_
        obtain ⟨A97, c97, e97⟩ := Kd.R_slice ho
        subst e97
        have n0 := Aside0.mk ((Kd.R_reads' ho).2.2)
        have n1 := Aside0.mk (below_then HBD.out HBD.out.size hb)
        have n2 := Aside0.mk (Kd.R_below HOH.out hb)
        have n3 := Aside0.mk (below_then HBW.out HBW.out.size hb)
        have n4 := Aside0.mk (pw_cell_below hb HQ.out)
        have n5 := Aside0.mk (blk_below B11.out hb)
        clear HBD HOH HBW HQ B11
        have HL1 := n0
        have HBD := n1
        have HOH := n2
        have HBW := n3
        have HQ := n4
        have B11 := n5
        clear n0 n1 n2 n3 n4 n5
        clear ho hb hg_ hnew_
        refine hK.out _ _ ⟨HQ.out, (blk_cell B11.out 0).trans rfl, (blk_cell B11.out 1).trans rfl⟩ (fun hHeld => ?_)
        clear hK K
        refine norm_ (a' := ?_) ?_ ?_
        rotate_left
        · show Act.put _ (some 97) _ = _
          simp only [Act.put, List.setIfInBounds_toArray, List.set_cons_zero, List.set_cons_succ, i64_w, i32_w, u8_w]
          rfl
        refine last_ (i := 8) (N := some 98) #[true, true, true, true, true, true, true, true, true, false, false, false, false] rfl rfl (by kernel_rfl) (by decide) (fun K hK => ?_)
        refine Kd.R_append_rows_step k63 (w0 := w0) w0.heap.size (by rfl) (.tmp 95) (.tmp 97) 56 63 (.agg #[.int .i64 0, .bool false]) 16 rfl Try.underlying56 info63 rfl (by decide) (by omega) (.slice A2 r1.h.length c2) r1.h ([⟨a0, a1⟩] : List S63) _ _ _ (fun _ => True) (fun _ => False) rfl rfl HOH.out HL1.out (fun _ _ h => h) (fun _ h => h.elim) (fun _ _ => trivial) HBW.out HBW.out.size ?aL ?_
        (case aL => have := HLN.out; simp; omega)
        intro v1 w11 ho hb hg hat
        obtain ⟨y2, hy2⟩ : ∃ y2, r1.h ++ [(⟨a0, a1⟩ : S63)] = y2 := ⟨_, rfl⟩
        rw [hy2] at ho
        have HY2 := Aside0.mk hy2
        clear hy2
        obtain ⟨A9, c9, e9⟩ := Kd.R_slice ho
        subst e9
        have hqz : w11.heap[r1.g]? = some (.cells #[r1.vh, r1.vw] 60 (0, 0)) := blk_grown (blk_below HR.out.1 HBD.out) hg (by rw [← EH2.out]; exact Kd.R_ne HR.out.2.2.1 HR.out.1 (by decide))
        rw [HG1.out.1] at hqz
        rw [← EH2.out] at hg hat
        have HS := Aside0.mk (HR.out.setH HBD.out ho hg hat)
        have B12 := Aside0.mk (blk_grown B11.out hg (fun e => NB.out (.inr (.inl e.symm))))
        have HZ := Aside0.mk hqz
        have HB11 := Aside0.mk hb
        clear hqz ho hg hat hb
        refine hK.out _ _ ?_
        clear hK K
        refine norm_ (a' := ?_) ?_ ?_
        rotate_left
        · show Act.put _ (some 98) _ = _
          simp only [Act.put, List.setIfInBounds_toArray, List.set_cons_zero, List.set_cons_succ, i64_w, i32_w, u8_w]
          rfl
        refine pure_ (i := 9) (N := some 99) (v := ?_) (a' := ?_) #[true, true, true, true, true, true, true, true, true, true, false, false, false] rfl rfl (by kernel_rfl) (fun _ _ _ h => h) (Or.inl ⟨by rfl, ?_⟩) ?_ ?_
        rotate_left
        · intro w'
          go_simp
          with_reducible rfl
        rotate_left
        · simp only [Act.put, List.setIfInBounds_toArray, List.set_cons_zero, List.set_cons_succ, i64_w, i32_w, u8_w]
          rfl
        refine pure_ (i := 10) (N := some 100) (v := ?_) (a' := ?_) #[true, true, true, true, true, true, true, true, true, true, true, false, false] rfl rfl (by kernel_rfl) (fun _ _ _ h => h) (Or.inl ⟨by rfl, ?_⟩) ?_ ?_
        rotate_left
        · intro w'
          go_simp
          with_reducible rfl
        rotate_left
        · simp only [Act.put, List.setIfInBounds_toArray, List.set_cons_zero, List.set_cons_succ, i64_w, i32_w, u8_w]
          rfl
        refine pure_ (i := 11) (N := some 101) (v := ?_) (a' := ?_) #[true, true, true, true, true, true, true, true, true, true, true, true, false] rfl rfl (by kernel_rfl) (fun _ _ _ h => h) (Or.inl ⟨by rfl, ?_⟩) ?_ ?_
        rotate_left
        · intro w'
          go_simp
          with_reducible rfl
        rotate_left
        · simp only [Act.put, List.setIfInBounds_toArray, List.set_cons_zero, List.set_cons_succ, i64_w, i32_w, u8_w]
          rfl
        refine last_ (i := 12) (N := none) #[true, true, true, true, true, true, true, true, true, true, true, true, true] rfl rfl (by kernel_rfl) (by decide) (fun K hK => ?_)
        have hz0 : w11.cell? ⟨r.g, 0, none⟩ = some r1.vh := (blk_cell HZ.out 0).trans rfl
        have hf0 := blk_frozen HZ.out 0
        refine skip_ (w1 := ?_) (by rfl) rfl ?_ ?_
        rotate_left
        · go_simp
          rfl
        refine hK.out _ _ ?_
        clear hK K
        refine done_ (by kernel_rfl) ?_
        obtain ⟨u1, u2, u3⟩ := HS.out
        rw [HG1.out.1] at u1 u2
        have m0 := Aside0.mk (HA.out.upd u2 u1 rfl rfl rfl u3)
        have m1 := Aside0.mk u1
        have m2 := Aside0.mk (HB11.out.setCell (p := ⟨r.g, 0, none⟩) HBR.out (Value.slice A9 y2.length c9))
        have m3 := Aside0.mk (ints_rec HO.out HR.out u2)
        have m4 := Aside0.mk (blk_far (p := ⟨r.g, 0, none⟩) B12.out (show g11 ≠ r.g from fun e => NB.out (.inl (e.trans HG1.out.1.symm))) (Value.slice A9 y2.length c9))
        clear u1 u2 u3 hz0 hf0 HS HB11 HZ B12 B11 HQ HOH HBD HA HR HBW HO HL1 EH2 NB HLN
        generalize (w11.setCell ⟨r.g, 0, none⟩ (Value.slice A9 y2.length c9)) = w13 at m0 m1 m2 m3 m4 ⊢
        have hcx : w13.cell? ⟨g11, 0, none⟩ = some (.int .i64 a0) := (blk_cell m4.out 0).trans rfl
        have HLNow := Aside0.mk (show now.length ≤ 100000 by have h1 := HGC.out.2.2; have h2 := HLW.out; omega)
        go_wp2_with (first
        | ((with_reducible refine gate_dst (N := 105) rfl ?_); refine Kd.R_lit (Kd.int .i64) _ 3 ?hg (N := 105) ?hd (xs := ([a0] : List Int)) (inner := [.int .i64 a0]) (ok := fun _ => True) (okp := fun _ => True) ?hr ?hp (fun _ hk => hk) trivial (Below.refl _ _) (Nat.le_refl _) (by simp) ?_; (case hd => rfl); (case hg => rfl); (case hr => first | (go_simp; done) | (go_simp; rfl)); (case hp => exact (Reps.snoc (Reps.none _ _) rfl rfl)); intro v105 w14 ho hb hg_ hnew_; obtain ⟨A105, c105, e105⟩ := Kd.R_slice ho; subst e105; have HL2 := Aside0.mk (Kd.R_reads' ho).2.2; have k0 := Aside0.mk (m0.out.below hb); have k1 := Aside0.mk (m1.out.below hb); have k2 := Aside0.mk (below_then m2.out m2.out.size hb); have k3 := Aside0.mk (Kd.R_below m3.out hb); clear m0 m1 m2 m3 m4 hcx ho hb hg_ hnew_)
        | ((with_reducible refine gate_dst (N := 106) rfl ?_); refine Kd.R_append_rows (Kd.int .i64) (w0 := w0) w0.heap.size (by rfl) (.tmp 102) (.tmp 105) 27 3 (.int .i64 0) 8 rfl Try.underlying27 info3 rfl (by decide) (by omega) (.slice A10 now.length c10) now [a0] _ _ _ (fun k => Obs.lim ≤ k) (fun _ => False) rfl rfl k3.out HL2.out (fun _ _ h => h) (fun _ h => h.elim) (fun k hk => Nat.le_trans k0.out.2.2.2.2.2.2.2 hk) k2.out k2.out.size ?aL ?_; (case aL => have := HLNow.out; simp; omega); intro v106 w15 ho hb hg hat; have j0 := Aside0.mk (k0.out.ints k3.out hg); have j1 := Aside0.mk (k1.out.ints k3.out hg); have j2 := Aside0.mk hb; obtain ⟨A15, c15, e15⟩ := Kd.R_slice ho; subst e15; have j3 := Aside0.mk ho; clear k0 k1 k2 k3 HL2 ho hb hg hat)
        )
        have hst := HGC.out.step HMY.out
        rw [← HRH.out, HY2.out, ← HRW.out] at hst
        go_roundw
        case rel => exact ⟨r1.setH _ y2, now ++ [a0], A15, c15, by first | rfl | (rw [List.length_append]; rfl) | simp, HG1, j0, j1, j2, j3, ⟨hst⟩⟩
        case measure =>
          have h3 := HGC.out.2.2
          rw [List.length_cons] at h3
          simp [lenV]
          omega
      · have hm := Bool.eq_false_iff.mpr hm
        have hz : ¬ r'.h.length = 0 := fun e => by have : r'.h = [] := List.eq_nil_of_length_eq_zero e; rw [this] at hm; cases hm
        have hne : r'.h.isEmpty = false := by cases hh2 : r'.h with | nil => rw [hh2] at hz; exact absurd rfl hz | cons x l => rfl
        have hzb : ((r'.h.length : Int) == 0) = false := beq_eq_false_iff_ne.mpr (by omega)
        have hzd : (r'.h.length == 0) = false := beq_eq_false_iff_ne.mpr hz
        have hzc := eq_false hz
        have HNE := Aside0.mk hne
        have HMF := Aside0.mk hm
        clear hz hne
        go_wp2_with (go_at_call 25; refine (HM.out a1).mono ?_; rintro e_ w9 ⟨rfl, hw9⟩; have hw9 := hw9.symm; subst hw9)
        go_ret2
        obtain ⟨k1, k2⟩ := free_keep (S2 := S2) (r' := r') HYS.out (by rw [HWL.out]; exact HGC.out.end1 HMF.out) HNE.out HK.out HG.out.2 HN.out
        exact ⟨_, rfl, (by rw [← HNOW.out, k2]; exact HO.out), ⟨B, clk, _, HA.out, (k1.symm.trans HPP.out)⟩, HBW.out⟩
end

theorem Free_calls [Obs] (gl : Nat) (who : Int) (key : ByteArray) (P : LP) (w0 w : World) (hL : LocksAt w w0.heap.size gl P) (hB : Below w0.heap.size w0 w) (hs : SmallP P) :
    Calls Try.prog 12 #[.pointer (some ⟨gl, 0, none⟩), .int .i64 who, .string key] w fun e w' => ∃ v, e = .returned (.tuple #[v, .int .i64 (freeP who key P).2.2]) ∧ Kd.R (Kd.int .i64) 3 w' w0.heap.size (fun k => Obs.lim ≤ k) v (freeP who key P).2.1 ∧ LocksAt w' w0.heap.size gl (freeP who key P).1 ∧ Below w0.heap.size w0 w' := by
  obtain ⟨B, clk, S, hA, rfl⟩ := hL
  unfold freeP
  by_cases hc : okC who
  · rw [if_pos hc]
    cases hf : findE key S 0 with
    | none =>
      rw [look_none hf]
      exact Free_none gl who key B clk S w0 w hA hB hs hc hf
    | some x =>
      obtain ⟨S1, r, S2, hS, hk, hn, _⟩ := findE_some hf
      have hl := look_some (S2 := S2) hk hn
      rw [← hS] at hl
      rw [hl]
      dsimp only
      by_cases h1 : hasF r.h who = true
      · rw [if_pos h1]
        exact Free_go gl who key B clk S w0 w hA hB hs hc S1 S2 r hS hk hn h1 _ _ rfl rfl
      · rw [if_neg h1]
        exact Free_not gl who key B clk S w0 w hA hB hs hc S1 S2 r hS hk hn (Bool.eq_false_iff.mpr h1)
  · rw [if_neg hc]
    exact Free_bad gl who key B clk S w0 w hA hB hs hc
end Go.Proofs.Ytdhabfjfpbdjfaa.Pr
