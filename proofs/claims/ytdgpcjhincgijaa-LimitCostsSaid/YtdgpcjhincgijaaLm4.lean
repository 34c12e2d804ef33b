-- A text by hand (wip/limit).
import Derived.RangeFuncNested
import Derived.RangeFuncBound
import Derived.RangeFuncCalls
import Derived.RangeFuncLeaves
import Derived.RangeFuncBox
import Derived.Shelf.Abstract
import Derived.Shelf.RegionOpen
import Derived.OwnWalkIn
import Derived.TacticsInMore
import Derived.LoopNIn
import Derived.LoopIn
import Derived.Test.YtdgpcjhincgijaaPr0
import Derived.Test.YtdgpcjhincgijaaLm1
namespace Go.Proofs.Ytdgpcjhincgijaa.Pr
open Go.RowKit Go.Shelf Go.Proofs.YtdgpcjhincgijaaW.PrintWords Go.Proofs.YtdgpcjhincgijaaW.PrintLast Go.Proofs.YtdgpcjhincgijaaW.PrintMore
set_option linter.unusedVariables false
set_option linter.unusedSimpArgs false
/-! ### Packs and their rows -/
def pl (g : G44) : Int × List Int := (g.f0, g.l)
/-- A pack's row is read: its block holds numbers. -/
def InAt (W : World) (g : G44) : Prop := g.n = g.l.length ∧ (Kd.int .i64).C W g.A g.l.length g.l ∧ ∀ ad, g.A = some ad → ∃ cells, W.heap[ad.block]? = some (.cells cells 3 (0, 0))
theorem C_eq {A : Option Addr} {n : Nat} {xs : List Int} {W W' : World} (h : (Kd.int .i64).C W A n xs) (hk : ∀ ad, A = some ad → W'.heap[ad.block]? = W.heap[ad.block]?) : (Kd.int .i64).C W' A n xs := by
  obtain ⟨h1, h2, h3⟩ := h
  refine ⟨h1, h2, fun hn => ?_⟩
  obtain ⟨a, ha, hx⟩ := h3 hn
  refine ⟨a, ha, fun i p hp => ?_⟩
  obtain ⟨cs, hcs, hK, hcell⟩ := hx i p hp
  refine ⟨cs, hcs, hK, fun j u hu => ?_⟩
  have := hcell j u hu
  have hb := hk a ha
  rw [← this]
  have e : (a.add (i * (Kd.int .i64).sz + j)).block = a.block := add_block _ _
  unfold World.cell?
  rw [e, hb]
theorem InAt.eq {W W' : World} {g : G44} (h : InAt W g) (hk : ∀ k : Nat, (∃ cells, W.heap[k]? = some (.cells cells 3 (0, 0))) → W'.heap[k]? = W.heap[k]?) : InAt W' g :=
  ⟨h.1, C_eq h.2.1 (fun ad e => hk _ (h.2.2 ad e)), fun ad e => by
    obtain ⟨c, hc⟩ := h.2.2 ad e
    exact ⟨c, (hk _ ⟨c, hc⟩).trans hc⟩⟩
theorem InAt.below {W W' : World} {g : G44} (h : InAt W g) (hb : Below W.heap.size W W') : InAt W' g := h.eq fun k ⟨_, hc⟩ => hb.block k (blk_lt hc)
theorem InAt.grown {W W' : World} {g : G44} (h : InAt W g) {row : Option Nat} (hg : W.grownBy W' row) (hr : ∀ r, row = some r → ∃ cells, W.heap[r]? = some (.cells cells 44 (0, 0))) : InAt W' g := h.eq fun k ⟨_, hc⟩ => hg.block k (blk_lt hc) fun e => by
  obtain ⟨c2, hc2⟩ := hr k e.symm
  rw [hc] at hc2
  injection hc2 with h2
  injection h2 with _ h2 _
  exact absurd h2 (by decide)
/-- Each of a row's packs. -/
def InAll (W : World) (d : List G44) : Prop := ∀ g ∈ d, InAt W g
theorem InAll.below {W W' : World} {d : List G44} (h : InAll W d) (hb : Below W.heap.size W W') : InAll W' d := fun g hg => (h g hg).below hb
theorem InAll.grown {W W' : World} {d : List G44} (h : InAll W d) {row : Option Nat} (hg : W.grownBy W' row) (hr : ∀ r, row = some r → ∃ cells, W.heap[r]? = some (.cells cells 44 (0, 0))) : InAll W' d := fun g h2 => (h g h2).grown hg hr
theorem InAll.append {W : World} {d e : List G44} (h : InAll W d) (k : InAll W e) : InAll W (d ++ e) := fun g hg => by
  rcases List.mem_append.1 hg with hg | hg
  · exact h g hg
  · exact k g hg
/-! ### The symbols alone -/
def singL (l : List Int) (k : Nat) : List (Int × List Int) := ((List.range k).map fun j => (l.getD j 0, [(j : Int)])).filter fun x => decide (x.1 > 0)
theorem singL_succ (l : List Int) (k : Nat) : singL l (k + 1) = if l.getD k 0 > 0 then singL l k ++ [(l.getD k 0, [(k : Int)])] else singL l k := by
  unfold singL
  rw [List.range_succ, List.map_append, List.filter_append]
  by_cases h : l.getD k 0 > 0
  · rw [if_pos h]
    congr 1
    exact List.filter_cons_of_pos (by simpa using h)
  · rw [if_neg h]
    have : ((List.map (fun j => (l.getD j 0, [(j : Int)])) [k]).filter fun x => decide (x.1 > 0)) = [] := by
      rw [List.map_cons, List.map_nil, List.filter_cons_of_neg (by simpa using h), List.filter_nil]
    rw [this, List.append_nil]
theorem singL_len (l : List Int) (k : Nat) : (singL l k).length ≤ k := by
  unfold singL
  refine Nat.le_trans (List.length_filter_le _ _) ?_
  simp
theorem rd_getD (l : List Int) (k : Nat) : rd l (k : Int) = l.getD k 0 := by unfold rd; rw [Int.toNat_natCast]
/-! ### What Lengths tells, on lists -/
theorem singL_mem {l : List Int} {k : Nat} {p : Int × List Int} (h : p ∈ singL l k) : ∃ j : Nat, j < k ∧ p = (l.getD j 0, [(j : Int)]) ∧ l.getD j 0 > 0 := by
  unfold singL at h
  obtain ⟨h1, h2⟩ := List.mem_filter.1 h
  obtain ⟨j, hj, rfl⟩ := List.mem_map.1 h1
  exact ⟨j, List.mem_range.1 hj, rfl, of_decide_eq_true h2⟩
/-- One more bit for a symbol; for each of a row's. -/
def bump (out : List Int) (s : Int) : List Int := out.set s.toNat (out.getD s.toNat 0 + 1)
def bumps (out : List Int) (r : List Int) : List Int := r.foldl bump out
def zerosL (l : List Int) : List Int := List.replicate l.length 0
def wP (p : Int × List Int) : Int := p.1
/-- Packs, bought two at a time. -/
def pairP : List (Int × List Int) → List (Int × List Int)
  | a :: b :: t => (a.1 + b.1, a.2 ++ b.2) :: pairP t
  | _ => []
/-- What there is on each level. -/
inductive HaveRel (S : List (Int × List Int)) : Nat → List (Int × List Int) → Prop
  | zero : HaveRel S 0 []
  | succ {j : Nat} {Y Z : List (Int × List Int)} (h : HaveRel S j Y) (hs : Srt wP Z) (hb : Stb wP (S ++ pairP Y) Z) : HaveRel S (j + 1) Z
def LenIs (l : List Int) (most er : Int) (r : List Int) : Prop :=
  (¬ (oftenS l = true ∧ 1 ≤ most ∧ most ≤ 15) ∧ er = 2 ∧ r = []) ∨
  (oftenS l = true ∧ ∃ m : Nat, most = (m : Int) ∧ 1 ≤ m ∧ m ≤ 15 ∧
    ((2 ^ m < (singL l l.length).length ∧ er = 11 ∧ r = []) ∨
     ((singL l l.length).length ≤ 2 ^ m ∧ er = 0 ∧
       ((singL l l.length = [] ∧ r = zerosL l) ∨
        (∃ (x : Int) (j : Nat), j < l.length ∧ singL l l.length = [(x, [(j : Int)])] ∧ r = (zerosL l).set j 1) ∨
        (2 ≤ (singL l l.length).length ∧ ∃ S hs, Srt wP S ∧ Stb wP (singL l l.length) S ∧ HaveRel S m hs ∧ 2 * (singL l l.length).length - 2 ≤ hs.length ∧
          r = (hs.take (2 * (singL l l.length).length - 2)).foldl (fun out p => bumps out p.2) (zerosL l))))))
theorem lenIs_arg {l : List Int} {most : Int} (h : ¬ (oftenS l = true ∧ 1 ≤ most ∧ most ≤ 15)) : LenIs l most 2 [] := .inl ⟨h, rfl, rfl⟩
end Go.Proofs.Ytdgpcjhincgijaa.Pr
