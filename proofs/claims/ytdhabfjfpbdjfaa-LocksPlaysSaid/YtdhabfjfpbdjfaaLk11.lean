-- A text by hand (wip/locks).
import Derived.RangeFuncNested
import Derived.RangeFuncBound
import Derived.RangeFuncCalls
import Derived.RangeFuncLeaves
import Derived.RangeFuncBox
import Derived.Shelf.Abstract
import Derived.Shelf.RegionOpen
import Derived.OwnWalkIn
import Derived.TacticsInMore
import Derived.LoopNIn
import Derived.LoopIn
import Derived.Test.YtdhabfjfpbdjfaaPr0
import Derived.Test.YtdhabfjfpbdjfaaLk8
namespace Go.Proofs.Ytdhabfjfpbdjfaa.Pr
open Go.RowKit Go.Shelf Go.Proofs.YtdhabfjfpbdjfaaW.PrintWords Go.Proofs.YtdhabfjfpbdjfaaW.PrintLast Go.Proofs.YtdhabfjfpbdjfaaW.PrintMore
set_option linter.unusedVariables false
set_option linter.unusedSimpArgs false

def LRec.setH (r : LRec) (v : Value) (h : List S63) : LRec := ⟨r.key, r.born, r.g, v, r.vw, h, r.w⟩
def LRec.setW (r : LRec) (v : Value) (w : List S63) : LRec := ⟨r.key, r.born, r.g, r.vh, v, r.h, w⟩
theorem R_farT {W : World} {base g t : Nat} {v : Value} {xs : List S63} {cs : Array Value} (h : Kd.R k63 63 W base (fun _ => True) v xs) (hb : W.heap[g]? = some (.cells cs t (0, 0))) (ht : 63 ≠ t) (i : Nat) (u : Value) : Kd.R k63 63 (W.setCell ⟨g, i, none⟩ u) base (fun _ => True) v xs :=
  Kd.R_mono (Kd.R_far (p := ⟨g, i, none⟩) (Kd.R_types h hb (fun q hq => by rw [List.mem_cons] at hq; rcases hq with rfl | hq; exact ht; cases hq)) (fun _ hk => hk.2) u) (fun _ _ => trivial)
theorem Q_farT {W : World} {base g t : Nat} {v : Value} {xs : List S63} {cs : Array Value} (h : Kd.Q k63 63 W base (fun _ => True) v xs) (hb : W.heap[g]? = some (.cells cs t (0, 0))) (ht : 63 ≠ t) (i : Nat) (u : Value) : Kd.Q k63 63 (W.setCell ⟨g, i, none⟩ u) base (fun _ => True) v xs :=
  Kd.Q_mono (Kd.Q_far (p := ⟨g, i, none⟩) (Kd.Q_types h hb (fun q hq => by rw [List.mem_cons] at hq; rcases hq with rfl | hq; exact ht; cases hq)) (fun _ hk => hk.2) u) (fun _ _ => trivial)
/-- The row of those who hold has become another one: its own block, or a new one. -/
theorem RecAt.setH {W W1 W2 : World} {base : Nat} {r : LRec} {v1 : Value} {h1 : List S63} (h : RecAt W base r) (hb : Below W.heap.size W W1) (ho : Kd.R k63 63 W2 base (fun _ => True) v1 h1) (hg : W1.grownBy W2 r.vh.ownBlock) (hat : v1.ownBlock = r.vh.ownBlock ∨ ∃ b, v1.ownBlock = some b ∧ W1.heap.size ≤ b) :
    RecAt (W2.setCell ⟨r.g, 0, none⟩ v1) base (r.setH v1 h1) ∧ Kept W (W2.setCell ⟨r.g, 0, none⟩ v1) r.bs ∧ (∀ k, (r.setH v1 h1).bs k → r.bs k ∨ W.heap.size ≤ k) := by
  obtain ⟨e1, e2, e3, e4, e5⟩ := h
  have e1b := blk_below e1 hb
  have e1c : W2.heap[r.g]? = some (.cells #[r.vh, r.vw] 60 (0, 0)) := blk_grown e1b hg (Kd.R_ne e3 e1 (by decide))
  have e4c : Kd.Q k63 63 W2 base (fun _ => True) r.vw r.w := Kd.Q_grown2 (Kd.Q_below e4 hb) rfl hg (fun k e e' => e5 k e e'.symm)
  have hs := hb.size
  refine ⟨⟨blk_put e1c 0 v1 rfl, e2, R_farT ho e1c (by decide) 0 v1, Q_farT e4c e1c (by decide) 0 v1, fun k hk hk2 => ?_⟩, ?_, fun k hk => ?_⟩
  · rcases hat with ha | ⟨b, ha, hlt⟩
    · exact e5 k (ha.symm.trans hk) hk2
    · have : b = k := by have := ha.symm.trans hk; injection this
      obtain ⟨c, hc⟩ := Kd.Q_typed e4 k hk2
      have := blk_lt hc
      omega
  · exact ((Kept.of_below hb r.bs).of_grown hg (fun k e => .inl (.inr (.inl e)))).setCell (p := ⟨r.g, 0, none⟩) (.inl (.inl rfl)) v1
  · rcases hk with hk | hk | hk
    · exact .inl (.inl hk)
    · rcases hat with ha | ⟨b, ha, hlt⟩
      · exact .inl (.inr (.inl (ha.symm.trans hk)))
      · have : b = k := by have := ha.symm.trans hk; injection this
        exact .inr (by omega)
    · exact .inl (.inr (.inr hk))
theorem RecAt.setW {W W1 W2 : World} {base : Nat} {r : LRec} {v1 : Value} {w1 : List S63} (h : RecAt W base r) (hb : Below W.heap.size W W1) (ho : Kd.Q k63 63 W2 base (fun _ => True) v1 w1) (hg : W1.grownBy W2 r.vw.ownBlock) (hat : v1.ownBlock = r.vw.ownBlock ∨ ∃ b, v1.ownBlock = some b ∧ W1.heap.size ≤ b) :
    RecAt (W2.setCell ⟨r.g, 1, none⟩ v1) base (r.setW v1 w1) ∧ Kept W (W2.setCell ⟨r.g, 1, none⟩ v1) r.bs ∧ (∀ k, (r.setW v1 w1).bs k → r.bs k ∨ W.heap.size ≤ k) := by
  obtain ⟨e1, e2, e3, e4, e5⟩ := h
  have e1b := blk_below e1 hb
  have e1c : W2.heap[r.g]? = some (.cells #[r.vh, r.vw] 60 (0, 0)) := blk_grown e1b hg (fun e => by
    obtain ⟨c, hc⟩ := Kd.Q_typed e4 r.g e.symm
    rw [e1] at hc
    injection hc with hc
    injection hc with _ hc _
    exact absurd hc (by decide))
  have e3c : Kd.R k63 63 W2 base (fun _ => True) r.vh r.h := Kd.R_grown2 (Kd.R_below e3 hb) rfl hg (fun k e e' => e5 k e'.symm e)
  have hs := hb.size
  refine ⟨⟨blk_put e1c 1 v1 rfl, e2, R_farT e3c e1c (by decide) 1 v1, Q_farT ho e1c (by decide) 1 v1, fun k hk hk2 => ?_⟩, ?_, fun k hk => ?_⟩
  · rcases hat with ha | ⟨b, ha, hlt⟩
    · exact e5 k hk (ha.symm.trans hk2)
    · have : b = k := by have := ha.symm.trans hk2; injection this
      obtain ⟨c, hc⟩ := Kd.R_typed e3 k hk
      have := blk_lt hc
      omega
  · exact ((Kept.of_below hb r.bs).of_grown hg (fun k e => .inl (.inr (.inr e)))).setCell (p := ⟨r.g, 1, none⟩) (.inl (.inl rfl)) v1
  · rcases hk with hk | hk | hk
    · exact .inl (.inl hk)
    · exact .inl (.inr (.inl hk))
    · rcases hat with ha | ⟨b, ha, hlt⟩
      · exact .inl (.inr (.inr (ha.symm.trans hk)))
      · have : b = k := by have := ha.symm.trans hk; injection this
        exact .inr (by omega)
end Go.Proofs.Ytdhabfjfpbdjfaa.Pr
