-- A text by hand (wip/limit).
import Derived.RangeFuncNested
import Derived.RangeFuncBound
import Derived.RangeFuncCalls
import Derived.RangeFuncLeaves
import Derived.RangeFuncBox
import Derived.Shelf.Abstract
import Derived.Shelf.RegionOpen
import Derived.OwnWalkIn
import Derived.TacticsInMore
import Derived.LoopNIn
import Derived.LoopIn
import Derived.Test.YtdgpcjhincgijaaPr0
import Derived.Test.YtdgpcjhincgijaaLh2
import Derived.Test.YtdgpcjhincgijaaLh3
namespace Go.Proofs.Ytdgpcjhincgijaa.Pr
open Go.RowKit Go.Shelf Go.Proofs.YtdgpcjhincgijaaW.PrintWords Go.Proofs.YtdgpcjhincgijaaW.PrintLast Go.Proofs.YtdgpcjhincgijaaW.PrintMore
set_option linter.unusedVariables false
set_option linter.unusedSimpArgs false
theorem huff_counted.calls (A : Option Addr) (c : Nat) (zs : List Int) (w : World) (hr : (Kd.int .i64).C w A zs.length zs) : Calls Try.prog 37 #[.slice A zs.length c] w (CountedPost zs w) := by
  refine (callsIn_wide (n := 3)).1 ?_
  by_cases hs : zs.length < 1 ∨ 288 < zs.length
  · exact counted_short _ _ trivial rfl A c zs w hs
  · refine counted_in _ _ trivial trivial trivial rfl (Nat.le_refl _) A c zs w hr hs (fun ad e => ?_)
    subst e
    obtain ⟨ad', e, hx⟩ := Kd.at_int hr 0 (by omega) (by omega)
    injection e with e
    subst e
    exact World.block_lt_of_cell? w _ hx
/-- What is left of a code's room, d lengths being left. -/
def roomF (c : List Int) : Nat → Int → Int
  | 0, left => left
  | d + 1, left => if wrap64 (wrap64 (2 * left) - rd c ((15 - d : Nat) : Int)) < 0 then wrap64 (wrap64 (2 * left) - rd c ((15 - d : Nat) : Int)) else roomF c d (wrap64 (wrap64 (2 * left) - rd c ((15 - d : Nat) : Int)))
def roomS (c : List Int) : Int := roomF c 15 1
section
attribute [local go_sem] Oper.semAt_some
set_option maxRecDepth 100000 in
set_option maxHeartbeats 4000000 in
theorem room_in (F : Fence) (n : Nat) (hF : F.fn 38) (hro : F.round = none) (g : Nat) (c : List Int) (hl : c.length = 16) (w : World) (hb : w.heap[g]? = some (.cells (vec16 c) 62 (0, 0))) :
    CallsIn F n Try.prog 38 #[.pointer (some ⟨g, 0, none⟩)] w fun e w' => e = .returned (.int .i64 (roomS c)) ∧ w' = w := by
  refine callsIn_of_wp Try.func38 rfl hF ?_ hro
  simp only [Try.ntmps38, List.size_toArray, List.length_cons, List.length_nil, Nat.reduceAdd, Nat.reduceSub, Array.replicate_succ, Array.replicate_zero, List.push_toArray, List.append_toArray, List.nil_append, List.cons_append]
  obtain ⟨rS, hS⟩ : ∃ r, roomS c = r := ⟨_, rfl⟩
  rw [hS]
  have HC : ∀ i : Nat, i < 16 → w.cell? ⟨g, i, none⟩ = some (.int .i64 (rd c (i : Int))) := fun i hi => by
    rw [blk_cell hb]
    unfold vec16 rd
    rw [List.getElem?_toArray, List.getElem?_map, List.getD_eq_getElem?_getD, Int.toNat_natCast, List.getElem?_eq_getElem (show i < c.length by omega)]
    rfl
  have HCA := Aside0.mk HC
  clear HC
  gi_wp2
  gi_loopw [3, 4] (fun x l wr => ∃ (d : Nat) (left : Int), d ≤ 15 ∧ x = .int .i64 left ∧ l = .int .i64 ((16 - d : Nat) : Int) ∧ roomF c d left = rS ∧ wr = w)
    (fun _ l _ => 16 - (intOf l).toNat)
  case atStart => exact ⟨15, 1, by omega, rfl, rfl, hS, rfl⟩
  case round =>
    obtain ⟨d, left, hd, rfl, rfl, hr, rfl⟩ := hrel
    cases d with
    | zero =>
      have q := eq_false (show ¬ ((16 - 0 : Nat) : Int) ≤ 15 by omega)
      simp only [roomF] at hr
      subst hr
      gi_wp2
      go_ret
      exact ⟨rfl, rfl⟩
    | succ d =>
      obtain ⟨m, hm⟩ : ∃ m : Nat, 16 - (d + 1) = m := ⟨_, rfl⟩
      rw [hm]
      have hm2 : 15 - d = m := by omega
      simp only [roomF, hm2] at hr
      have q := eq_true (show (m : Int) ≤ 15 by omega)
      have q0 := eq_true (show (0 : Int) ≤ (m : Int) by omega)
      have q1 := eq_true (show (m : Int) < 16 by omega)
      have q2 := eq_true (show m < 16 by omega)
      have q3 := eq_true (show m ≤ 15 by omega)
      have hc := HCA.out m (by omega)
      obtain ⟨y, hy⟩ : ∃ y, wrap64 (wrap64 (2 * left) - rd c (m : Int)) = y := ⟨_, rfl⟩
      rw [hy] at hr
      by_cases hneg : y < 0
      · rw [if_pos hneg] at hr
        subst hr
        have q4 := eq_true hneg
        gi_wp2
        go_ret
        exact ⟨by rw [← hy]; rfl, rfl⟩
      · rw [if_neg hneg] at hr
        have q4 := eq_false hneg
        gi_wp2
        go_roundw
        case rel => exact ⟨d, y, by omega, by first | rfl | (simp [hy]; done) | (rw [← hy]), by first | rfl | (congr 1; omega) | (simp; omega), hr, by first | rfl | trivial⟩
        case measure => simp [intOf]; omega
end
theorem room.calls (g : Nat) (c : List Int) (hl : c.length = 16) (w : World) (hb : w.heap[g]? = some (.cells (vec16 c) 62 (0, 0))) : Calls Try.prog 38 #[.pointer (some ⟨g, 0, none⟩)] w fun e w' => e = .returned (.int .i64 (roomS c)) ∧ w' = w :=
  (callsIn_wide (n := 3)).1 (room_in _ _ trivial rfl g c hl w hb)
end Go.Proofs.Ytdgpcjhincgijaa.Pr
