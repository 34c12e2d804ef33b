-- A text by hand (wip/locks).
import Derived.RangeFuncNested
import Derived.RangeFuncBound
import Derived.RangeFuncCalls
import Derived.RangeFuncLeaves
import Derived.RangeFuncBox
import Derived.Shelf.Abstract
import Derived.Shelf.RegionOpen
import Derived.OwnWalkIn
import Derived.TacticsInMore
import Derived.LoopNIn
import Derived.LoopIn
import Derived.Test.YtdhabfjfpbdjfaaPr0
import Derived.Test.YtdhabfjfpbdjfaaLk8
namespace Go.Proofs.Ytdhabfjfpbdjfaa.Pr
open Go.RowKit Go.Shelf Go.Proofs.YtdhabfjfpbdjfaaW.PrintWords Go.Proofs.YtdhabfjfpbdjfaaW.PrintLast Go.Proofs.YtdhabfjfpbdjfaaW.PrintMore
set_option linter.unusedVariables false
set_option linter.unusedSimpArgs false

section
attribute [local go_sem] Oper.semAt_some
set_option maxHeartbeats 2000000 in
theorem New_calls (w0 w : World) (hB : Below w0.heap.size w0 w) : Calls Try.prog 8 #[] w fun e w' => e = .returned (.pointer (some ⟨w.heap.size + 1, 0, none⟩)) ∧ @LocksAt Obs.none w' w0.heap.size (w.heap.size + 1) [] ∧ Below w0.heap.size w0 w' := by
  have hmm := @run_makeMap Try.prog
  have hs := Aside0.mk hB.size
  have HB := Aside0.mk hB
  clear hB
  go_enter Try.func8, Try.ntmps8
  go_wp2
  go_ret
  have e1 := blk_new (w.alloc (.map #[] 0)) (.cells #[.map (some w.heap.size)] 51 (0, 0))
  have e2 := blk_alloc (blk_new w (.map #[] 0)) (.cells #[.map (some w.heap.size)] 51 (0, 0))
  simp only [World.size_alloc] at e1
  refine ⟨rfl, ⟨w.heap.size, 0, [], ⟨e1, by have := hs.out; omega, e2, hs.out, by simp, List.Pairwise.nil, seen_none _⟩, rfl⟩, (HB.out.alloc hs.out _).alloc (by rw [World.size_alloc]; have := hs.out; omega) _⟩
set_option maxHeartbeats 4000000 in
theorem Waits_calls [Obs] (gl : Nat) (key : ByteArray) (P : LP) (base : Nat) (w : World) (hL : LocksAt w base gl P) (hs : SmallP P) : Calls Try.prog 11 #[.pointer (some ⟨gl, 0, none⟩), .string key] w fun e w' => ∃ v, e = .returned v ∧ Kd.R (Kd.int .i64) 3 w' w.heap.size (fun _ => True) v (waitsP key P) ∧ Below w.heap.size w w' := by
  obtain ⟨B, clk, S, hA, rfl⟩ := hL
  have hcl : w.cell? ⟨gl, 0, none⟩ = some (.map (some B)) := (blk_cell hA.1 0).trans rfl
  have hlk := run_look w key hA.2.2.1
  unfold lookV at hlk
  unfold waitsP
  cases hf : findE key S 0 with
  | none =>
    rw [hf] at hlk
    rw [look_none hf]
    dsimp only at hlk ⊢
    clear hf hA hs
    go_enter Try.func11, Try.ntmps11
    go_wp2
    go_ret
    exact ⟨_, rfl, Kd.R_nil _ _ _ _ _, Below.refl _ _⟩
  | some x =>
    obtain ⟨S1, r, S2, rfl, hk, hn, rfl⟩ := findE_some hf
    rw [hf] at hlk
    rw [look_some hk hn]
    dsimp only at hlk ⊢
    have hr := Aside0.mk (hA.2.2.2.2.1 r (by simp))
    have hl := Aside0.mk (show r.w.length ≤ 1048576 by have := (hs (projR r) (List.mem_map.2 ⟨r, by simp, rfl⟩)).2; unfold projR at this; dsimp only at this; omega)
    clear hf hA hs hk hn
    go_enter Try.func11, Try.ntmps11
    go_wp2_with (go_at_call 20; refine (whose_w hr.out hl.out).mono ?_; rintro e w3 ⟨v, rfl, ho, hb⟩; have HO := Aside0.mk ho; have HB := Aside0.mk hb; clear ho hb)
    go_ret
    exact ⟨_, rfl, HO.out, HB.out⟩
end
end Go.Proofs.Ytdhabfjfpbdjfaa.Pr
