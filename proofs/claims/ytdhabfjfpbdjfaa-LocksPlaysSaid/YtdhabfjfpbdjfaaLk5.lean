-- A text by hand (wip/locks).
import Derived.RangeFuncNested
import Derived.RangeFuncBound
import Derived.RangeFuncCalls
import Derived.RangeFuncLeaves
import Derived.RangeFuncBox
import Derived.Shelf.Abstract
import Derived.Shelf.RegionOpen
import Derived.OwnWalkIn
import Derived.TacticsInMore
import Derived.LoopNIn
import Derived.LoopIn
import Derived.Test.YtdhabfjfpbdjfaaPr0
import Derived.Test.YtdhabfjfpbdjfaaLk4
namespace Go.Proofs.Ytdhabfjfpbdjfaa.Pr
open Go.RowKit Go.Shelf Go.Proofs.YtdhabfjfpbdjfaaW.PrintWords Go.Proofs.YtdhabfjfpbdjfaaW.PrintLast Go.Proofs.YtdhabfjfpbdjfaaW.PrintMore
set_option linter.unusedVariables false
set_option linter.unusedSimpArgs false

def IdxOf (xs : List S63) (who r : Int) : Prop := (r = -1 ∧ ∀ x ∈ xs, x.f0 ≠ who) ∨ ∃ i : Nat, r = (i : Int) ∧ i < xs.length ∧ (rd_T63 xs (i : Int)).f0 = who ∧ ∀ x ∈ xs.take i, x.f0 ≠ who
theorem rdA_at {xs : List S63} {k : Nat} (hk : k < xs.length) : xs[k]? = some (rd_T63 xs (k : Int)) := by
  unfold rd_T63
  rw [Int.toNat_natCast, List.getD_eq_getElem?_getD, List.getElem?_eq_getElem hk]; rfl
theorem takeA (xs : List S63) {k : Nat} (hk : k < xs.length) : xs.take (k + 1) = xs.take k ++ [rd_T63 xs (k : Int)] := by rw [List.take_add_one, rdA_at hk]; rfl
section
attribute [local go_sem] Oper.semAt_some
set_option maxRecDepth 100000 in
set_option maxHeartbeats 4000000 in
theorem idx_calls (gw : Nat) (A : Option Addr) (c : Nat) (xs : List S63) (who : Int) (w : World) (hI : Kd.C k63 w A xs.length xs) (hw : w.heap[gw]? = some (cellW who)) (hl : xs.length ≤ 1048576) :
    Calls Try.prog 30 #[.slice A xs.length c, .func (.func 22) #[] #[.pointer (some ⟨gw, 0, none⟩)]] w fun e w' => (∃ r : Int, e = .returned (.int .i64 r) ∧ IdxOf xs who r) ∧ Below w.heap.size w w' := by
  have HI := Aside0.mk hI
  have HW := Aside0.mk hw
  have HB := Aside0.mk (Below.refl w.heap.size w)
  clear hI hw
  go_enter Try.func30, Try.ntmps30
  go_wp2
  go_loopw [8] (fun v8 w' => ∃ k : Nat, k ≤ xs.length ∧ v8 = .int .i64 (k : Int) ∧ Aside0 (∀ x ∈ xs.take k, x.f0 ≠ who) ∧ Aside0 (Below w.heap.size w w'))
    (fun v8 _ => xs.length + 1 - (intOf v8).toNat)
  case atStart => exact ⟨0, by omega, rfl, ⟨by simp⟩, HB⟩
  case round =>
    clear HB
    obtain ⟨k, hk, rfl, HN, HB⟩ := hrel
    by_cases hlt : k < xs.length
    · obtain ⟨ad, ead, hx0, hx1⟩ := at_T63 (Kd.C_below HI.out HB.out) (k : Int) (by omega) (by omega)
      subst ead
      rw [Int.toNat_natCast] at hx0 hx1
      have HT := Aside0.mk (takeA xs hlt)
      obtain ⟨⟨x0, x1⟩, hx⟩ : ∃ x, rd_T63 xs (k : Int) = x := ⟨_, rfl⟩
      rw [hx] at hx0 hx1 HT
      have HX := Aside0.mk hx
      have hgw := (HB.out.block gw (blk_lt HW.out)).trans HW.out
      have q0 := eq_true (show (k : Int) < (xs.length : Int) by omega)
      have q1 := eq_true (show (0 : Int) ≤ (k : Int) by omega)
      have q2 := eq_true hlt
      clear hx
      by_cases hq : x0 = who
      · have hqb : (x0 == who) = true := beq_iff_eq.mpr hq
        have HQ := Aside0.mk hq
        have HL := Aside0.mk hlt
        clear hq hlt
        go_wp2_with (go_at_call 22; refine (free1_calls gw who x0 x1 _ hgw).mono ?_; rintro e w3 ⟨rfl, hb⟩; have HB3 := Aside0.mk (below_then HB.out HB.out.size hb); clear hb)
        go_ret
        exact ⟨⟨_, rfl, .inr ⟨k, rfl, HL.out, by rw [HX.out]; exact HQ.out, HN.out⟩⟩, HB3.out⟩
      · have hqb : (x0 == who) = false := beq_eq_false_iff_ne.mpr hq
        have HQ := Aside0.mk hq
        clear hq
        go_wp2_with (go_at_call 22; refine (free1_calls gw who x0 x1 _ hgw).mono ?_; rintro e w3 ⟨rfl, hb⟩; have HB3 := Aside0.mk (below_then HB.out HB.out.size hb); clear hb)
        go_roundw
        case rel => exact ⟨k + 1, by omega, by first | rfl | (simp; done), ⟨by rw [HT.out]; intro x hx; rcases List.mem_append.1 hx with h | h; exact HN.out x h; simp at h; subst h; exact HQ.out⟩, HB3⟩
        case measure => simp [intOf]; omega
    · obtain rfl : k = xs.length := by omega
      have q0 := eq_false (show ¬ (xs.length : Int) < (xs.length : Int) by omega)
      go_wp2
      go_ret
      exact ⟨⟨_, rfl, .inl ⟨rfl, by have := HN.out; rwa [List.take_length] at this⟩⟩, HB.out⟩
end
theorem run_clear (W : World) {go o m c2 e : Nat} {cur : Array Value} (hh : W.heap[go]? = some (.cells cur e (0, 0))) (hm : 0 < m) (hfit : o + m * 2 ≤ cur.size) : ∃ seg : List Value, seg.length = m * 2 ∧ (Builtin.clear_ #[56] 0 #[.slice (some ⟨go, o, none⟩) m c2]).run Try.prog W = .ok (.tuple #[]) (W.setCells go o seg) := by
  obtain ⟨m, rfl⟩ : ∃ q, m = q + 1 := ⟨m - 1, by omega⟩
  have hz : (zeroValue 63).run Try.prog W = .ok (.agg #[.int .i64 0, .bool false]) W := Try.zeroValue63 W
  obtain ⟨zs, hzs⟩ : ∃ zs, zs = (Builtin.zeroCells #[.int .i64 0, .bool false] (m + 1)).toList := ⟨_, rfl⟩
  have hzl : zs.length = (m + 1) * 2 := by rw [hzs]; simp [Builtin.zeroCells]
  have hz1 : ∀ v ∈ zs, v.oneCell' = true := fun v hv => by
    rw [hzs] at hv
    simp only [Builtin.zeroCells, Array.toList_map, List.mem_map] at hv
    obtain ⟨i, _, rfl⟩ := hv
    show ((#[Value.int .i64 0, Value.bool false] : Array Value)[i % 2]!).oneCell' = true
    rcases Nat.mod_two_eq_zero_or_one i with h | h <;> rw [h] <;> rfl
  have hst := run_storeCells_cells (P := Try.prog) go o zs 0 W (fun j hj => by rw [cell_of_row W go _ cur e (0, 0) hh]; simp; omega) (fun j _ => blk_frozen hh _) hz1
  rw [Nat.add_zero] at hst
  have hu := Try.underlying56
  refine ⟨zs, hzl, ?_⟩
  simp only [Builtin.clear_]
  simp [hu, hz, go_sem]
  rw [← hzs, hst]
  rfl
end Go.Proofs.Ytdhabfjfpbdjfaa.Pr
