-- Written by a program of this session (wip/tool/graft.py), which runs the kit's printer over texts by hand.
import Derived.Test.YtggmffmajgnhkaaPr0
namespace Go.Proofs.Ytggmffmajgnhkaa.Pr
open Go.RowKit Go.Proofs.YtggmffmajgnhkaaW.PrintWords Go.Proofs.YtggmffmajgnhkaaW.PrintLast Go.Proofs.YtggmffmajgnhkaaW.PrintMore
attribute [local go_sem] max2_int min2_int max_two min_two max_three min_three max_four min_four   -- for this text's walks alone
set_option linter.unusedVariables false
set_option linter.unusedSimpArgs false

/-! ### words by hand -/
/-- A row's block is the one that it was, or a new one. -/
def RowOk (w : World) (r : Option Nat) (v : Value) : Prop := ∀ k, v.ownBlock = some k → r = some k ∨ w.heap.size ≤ k
theorem keep2 {w W w1 : World} {g : Nat} {r : Option Nat} (h : KeepBut w W g r) (hb : Below W.heap.size W w1) : KeepBut w w1 g r :=
  ⟨Nat.le_trans h.1 hb.size, fun i hi h1 h2 => (hb.block i (Nat.lt_of_lt_of_le hi h.1)).trans (h.2 i hi h1 h2)⟩
theorem keep3 {w W w1 : World} {g : Nat} {r : Option Nat} {v : Value} (h : KeepBut w W g r) (hv : RowOk w r v) (hg : W.grownBy w1 v.ownBlock) : KeepBut w w1 g r :=
  ⟨Nat.le_trans h.1 hg.size, fun i hi h1 h2 => (hg.block i (Nat.lt_of_lt_of_le hi h.1) (fun he => by
    rcases hv i he.symm with h3 | h3
    · exact h2 h3.symm
    · omega)).trans (h.2 i hi h1 h2)⟩
theorem keep_drew {w W : World} {g : Nat} {r : Option Nat} (h : KeepBut w W g r) : KeepBut w W.drew g r := h
theorem keep_row {w W : World} {g : Nat} {r : Option Nat} {k o : Nat} (h : KeepBut w W g r) (hv : r = some k ∨ w.heap.size ≤ k) (u : Value) : KeepBut w (W.setCell ⟨k, o, none⟩ u) g r :=
  ⟨by rw [World.size_setCell]; exact h.1, fun i hi h1 h2 => (Below.heap_setCell W ⟨k, o, none⟩ u i (fun he => by
    have he : i = k := he
    rcases hv with h3 | h3
    · exact h2 (by rw [h3, he])
    · omega)).trans (h.2 i hi h1 h2)⟩
theorem row_new {w W : World} {r : Option Nat} {v v1 : Value} (hv : RowOk w r v) (hle : w.heap.size ≤ W.heap.size) (hat : v1.ownBlock = v.ownBlock ∨ ∃ b, v1.ownBlock = some b ∧ W.heap.size ≤ b) : RowOk w r v1 := by
  intro k hk
  rcases hat with h | ⟨b, h, hb⟩
  · exact hv k (h ▸ hk)
  · rw [h] at hk
    injection hk with hk
    exact .inr (by omega)
section
variable {P : Program} {ops : Array Oper} {o : Oper} {a : Act} {Q : Exit → Act → World → Prop} {Kc : Act → World → Prop}
/-- A slice's literal as one step of a region that draws its order: its block has a letter. -/
theorem lit_step {W : World} (hw : Region.wanted o (yielded ops a.tmps) = true) {N : Tmp} (_hd : o.dst = some N) {cs : Array Value} {t : TypeId} {n : Nat}
    (hrun : (execOp a.eval o).run P W = .ok (.value (.slice (some ⟨W.heap.size, 0, none⟩) n n)) (W.alloc (.cells cs t (0, 0))))
    (h : ∀ g, g = W.heap.size → ∀ w1, w1.heap[g]? = some (.cells cs t (0, 0)) → Below W.heap.size W w1 → Kc (a.put o.dst (.slice (some ⟨g, 0, none⟩) n n)) w1) : if Region.wanted o (yielded ops a.tmps) = true then Oper.wp P o a W Kc Q else Kc (a.put o.dst undef) W :=
  event_step hw hrun (h _ rfl _ (blk_new W _) (below_alloc (Below.refl _ _) _))
end
theorem lit_C {w : World} {g : Nat} {x : Int} (h : w.heap[g]? = some (.cells #[.int .u8 x] 5 (0, 0))) : Kd.C (Kd.int .u8) w (some ⟨g, 0, none⟩) 1 [x] :=
  Kd.C_of_reads (d := (0 : Int)) (h1 := fun _ => rfl) ⟨rfl, by omega, fun _ => ⟨_, rfl, fun j hj => by
    obtain rfl : j = 0 := by omega
    rw [add_plain]
    exact (blk_cell h 0).trans rfl⟩⟩
theorem ne_lit {W : World} {g e base : Nat} {ok : Nat → Prop} {v : Value} {xs : List Int} (h : Kd.R (Kd.int .u8) e W base ok v xs) (hg : g = W.heap.size) : some g ≠ v.ownBlock := fun he => by
  have := Kd.R_lt h g he.symm
  omega
theorem ne_row {W w1 : World} {g e : Nat} {o : Obj} {ok : Nat → Prop} {v : Value} {xs : List Int} (hb : W.heap[g]? = some o) (h : Kd.R (Kd.int .u8) e w1 W.heap.size ok v xs) : some g ≠ v.ownBlock := fun he => by
  have := Kd.R_base h g he.symm
  have := blk_lt hb
  omega
theorem ne_grown {W : World} {g : Nat} {o : Obj} {v v1 : Value} (hb : W.heap[g]? = some o) (h : some g ≠ v.ownBlock) (hat : v1.ownBlock = v.ownBlock ∨ ∃ b, v1.ownBlock = some b ∧ W.heap.size ≤ b) : some g ≠ v1.ownBlock := by
  rcases hat with e | ⟨b, e, hle⟩
  · rw [e]; exact h
  · rw [e]
    intro he
    injection he with he
    have := blk_lt hb
    omega

end Go.Proofs.Ytggmffmajgnhkaa.Pr
