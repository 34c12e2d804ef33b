-- Texts by hand and by programs of this session, joined (wip/tool/merge.py).
import Derived.Test.YtgflkkjhckcipaaGreatDoorMID15
import Derived.Shelf.Abstract
import Derived.Shelf.RegionOpen
import Derived.OwnWalkIn
import Derived.TacticsInMore
import Derived.LoopNIn
import Derived.LoopIn
import Derived.Test.YtgflkkjhckcipaaGreatDoorMID10
-- YtgflkkjhckcipaaGreatDoorPv1
set_option maxHeartbeats 16000000
set_option maxRecDepth 1000000
namespace Go.Proofs.YtgflkkjhckcipaaGreatDoor.Pv
open Go.RowKit Go.Proofs.YtgflkkjhckcipaaGreatDoorW.PrintWords Go.Proofs.YtgflkkjhckcipaaGreatDoorW.PrintLast Go.Proofs.YtgflkkjhckcipaaGreatDoorW.PrintMore
attribute [local go_sem] max2_int min2_int max_two min_two max_three min_three max_four min_four   -- for this text's walks alone
set_option linter.unusedVariables false
set_option linter.unusedSimpArgs false

def valiseref01_Right.f (l0_0 : List Int) (a0_1 : Int) : Option (Bool) := if a0_1 < 0 then (some false) else (if (l0_0.length : Int) = (wrap64 ((wrap64 (Int.tdiv a0_1 8)) + (wrap64 (Int.tdiv (wrap64 ((Int.tmod a0_1 8) + 7)) 8)))) then (if (Int.tmod a0_1 8) = 0 then (some true) else (if 0 ≤ (wrap64 ((l0_0.length : Int) - 1)) then (if (wrap64 ((l0_0.length : Int) - 1)) < (l0_0.length : Int) then (if 0 ≤ (Int.tmod a0_1 8) then (some ((shr .u8 (rd l0_0 (wrap64 ((l0_0.length : Int) - 1))) (Int.tmod a0_1 8)) == 0)) else (none)) else (none)) else (none))) else (some false))
theorem valiseref01_Right.calls (A0_0 : Option Addr) (c0_0 : Nat) (l0_0 : List Int) (a0_1 : Int) (r : Bool) (w : World) (hr0_0 : Kd.C (Kd.int .u8) w A0_0 l0_0.length l0_0) (hc0_0 : l0_0.length ≤ c0_0) (h : valiseref01_Right.f l0_0 a0_1 = some r) :
    Calls Tryz.prog 52 #[.agg #[.slice A0_0 l0_0.length c0_0, .int .i64 a0_1]] w fun e w' => e = .returned (.bool r) ∧ Below w.heap.size w w' := by
  have hu43 := Tryz.underlying43; have HR0_0 := Ak hr0_0; have HC0_0 := Ak hc0_0; clear hr0_0 hc0_0; have HB := Ak (Below.refl w.heap.size w); have H : (if a0_1 < 0 then (some false) else (if (l0_0.length : Int) = (wrap64 ((wrap64 (Int.tdiv a0_1 8)) + (wrap64 (Int.tdiv (wrap64 ((Int.tmod a0_1 8) + 7)) 8)))) then (if (Int.tmod a0_1 8) = 0 then (some true) else (if 0 ≤ (wrap64 ((l0_0.length : Int) - 1)) then (if (wrap64 ((l0_0.length : Int) - 1)) < (l0_0.length : Int) then (if 0 ≤ (Int.tmod a0_1 8) then (some ((shr .u8 (rd l0_0 (wrap64 ((l0_0.length : Int) - 1))) (Int.tmod a0_1 8)) == 0)) else (none)) else (none)) else (none))) else (some false))) = some r := h; clear h
  by_cases c2 : a0_1 < 0
  · rw [if_pos c2] at H; have c2b0 : decide (a0_1 < 0) = true := decide_eq_true c2; clear c2; obtain rfl := Option.some.inj H; go_enter Tryz.func52, Tryz.ntmps52
    go_wp2_with (((with_reducible refine gate_dst (N := 1) rfl ?_); (try (refine gate_guard (by rfl) ?_; dsimp only)); refine box_event ?hg (N := 1) ?hd (cs := #[.slice A0_0 l0_0.length c0_0, .int .i64 a0_1]) (t := 43) ?hr ?_; (case hd => rfl); (case hg => rfl); (case hr => (go_simp; done)); intro gb101 hg w3 hbox hb; replace BK101 := Ak (hbox); replace GW101 := Ak ((by rw [hg]; exact (below_size bl_) : w.heap.size ≤ gb101)); replace GE101 := Ak ((by rw [hg]; exact (below_size bl_) : w.heap.size ≤ gb101)); replace HB := Ak (below_step bl_ hb); clear hb hbox hg; have hcz4_0 : w3.cell? ⟨gb101, 0, none⟩ = some (.slice A0_0 l0_0.length c0_0) := (blk_cell BK101.out 0).trans rfl; have hcz4_1 : w3.cell? ⟨gb101, 1, none⟩ = some (.int .i64 a0_1) := (blk_cell BK101.out 1).trans rfl; have hfz4_0 := blk_frozen BK101.out 0; have hfz4_1 := blk_frozen BK101.out 1))
    repeat (go_quiet (fail); try go_wp2_with (fail))
    go_ret; exact ⟨by rfl, by repeat ((with_reducible exact HB.out))⟩
  rw [if_neg c2] at H; have c2b0 : decide (a0_1 < 0) = false := decide_eq_false c2; clear c2
  by_cases c5 : (l0_0.length : Int) = (wrap64 ((wrap64 (Int.tdiv a0_1 8)) + (wrap64 (Int.tdiv (wrap64 ((Int.tmod a0_1 8) + 7)) 8))))
  rotate_left
  · rw [if_neg c5] at H; have c5b0 : ((l0_0.length : Int) == (wrap64 ((wrap64 (Int.tdiv a0_1 8)) + (wrap64 (Int.tdiv (wrap64 ((Int.tmod a0_1 8) + 7)) 8))))) = false := beq_eq_false_iff_ne.mpr c5; have c5b1 : ((l0_0.length : Int) != (wrap64 ((wrap64 (Int.tdiv a0_1 8)) + (wrap64 (Int.tdiv (wrap64 ((Int.tmod a0_1 8) + 7)) 8))))) = true := bne_iff_ne.mpr c5; obtain rfl := Option.some.inj H; go_enter Tryz.func52, Tryz.ntmps52
    go_wp2_with (((with_reducible refine gate_dst (N := 1) rfl ?_); (try (refine gate_guard (by rfl) ?_; dsimp only)); refine box_event ?hg (N := 1) ?hd (cs := #[.slice A0_0 l0_0.length c0_0, .int .i64 a0_1]) (t := 43) ?hr ?_; (case hd => rfl); (case hg => rfl); (case hr => (go_simp; done)); intro gb101 hg w17 hbox hb; replace BK101 := Ak (hbox); replace GW101 := Ak ((by rw [hg]; exact (below_size bl_) : w.heap.size ≤ gb101)); replace GE101 := Ak ((by rw [hg]; exact (below_size bl_) : w.heap.size ≤ gb101)); replace HB := Ak (below_step bl_ hb); clear hb hbox hg; have hcz18_0 : w17.cell? ⟨gb101, 0, none⟩ = some (.slice A0_0 l0_0.length c0_0) := (blk_cell BK101.out 0).trans rfl; have hcz18_1 : w17.cell? ⟨gb101, 1, none⟩ = some (.int .i64 a0_1) := (blk_cell BK101.out 1).trans rfl; have hfz18_0 := blk_frozen BK101.out 0; have hfz18_1 := blk_frozen BK101.out 1))
    repeat (go_quiet (fail); try go_wp2_with (fail))
    go_ret; exact ⟨by rfl, by repeat ((with_reducible exact HB.out))⟩
  rw [if_pos c5] at H; have c5b0 : ((l0_0.length : Int) == (wrap64 ((wrap64 (Int.tdiv a0_1 8)) + (wrap64 (Int.tdiv (wrap64 ((Int.tmod a0_1 8) + 7)) 8))))) = true := beq_iff_eq.mpr c5; have c5b1 : ((l0_0.length : Int) != (wrap64 ((wrap64 (Int.tdiv a0_1 8)) + (wrap64 (Int.tdiv (wrap64 ((Int.tmod a0_1 8) + 7)) 8))))) = false := bne_eq_false_iff_eq.mpr c5; clear c5
  by_cases c6 : (Int.tmod a0_1 8) = 0
  · rw [if_pos c6] at H; have c6b0 : ((Int.tmod a0_1 8) == 0) = true := beq_iff_eq.mpr c6; have c6b1 : ((Int.tmod a0_1 8) != 0) = false := bne_eq_false_iff_eq.mpr c6; clear c6; obtain rfl := Option.some.inj H; go_enter Tryz.func52, Tryz.ntmps52
    go_wp2_with (((with_reducible refine gate_dst (N := 1) rfl ?_); (try (refine gate_guard (by rfl) ?_; dsimp only)); refine box_event ?hg (N := 1) ?hd (cs := #[.slice A0_0 l0_0.length c0_0, .int .i64 a0_1]) (t := 43) ?hr ?_; (case hd => rfl); (case hg => rfl); (case hr => (go_simp; done)); intro gb101 hg w7 hbox hb; replace BK101 := Ak (hbox); replace GW101 := Ak ((by rw [hg]; exact (below_size bl_) : w.heap.size ≤ gb101)); replace GE101 := Ak ((by rw [hg]; exact (below_size bl_) : w.heap.size ≤ gb101)); replace HB := Ak (below_step bl_ hb); clear hb hbox hg; have hcz8_0 : w7.cell? ⟨gb101, 0, none⟩ = some (.slice A0_0 l0_0.length c0_0) := (blk_cell BK101.out 0).trans rfl; have hcz8_1 : w7.cell? ⟨gb101, 1, none⟩ = some (.int .i64 a0_1) := (blk_cell BK101.out 1).trans rfl; have hfz8_0 := blk_frozen BK101.out 0; have hfz8_1 := blk_frozen BK101.out 1))
    repeat (go_quiet (fail); try go_wp2_with (fail))
    go_ret; exact ⟨by rfl, by repeat ((with_reducible first | exact HB.out | apply pw_below_drewN))⟩
  rw [if_neg c6] at H; have c6b0 : ((Int.tmod a0_1 8) == 0) = false := beq_eq_false_iff_ne.mpr c6; have c6b1 : ((Int.tmod a0_1 8) != 0) = true := bne_iff_ne.mpr c6; obtain ⟨ji9, hji9⟩ : ∃ j_ : Int, (wrap64 ((l0_0.length : Int) - 1)) = j_ := ⟨_, rfl⟩
  replace H : (if 0 ≤ (ji9) then (if (ji9) < (l0_0.length : Int) then (if 0 ≤ (Int.tmod a0_1 8) then (some ((shr .u8 (rd l0_0 (ji9)) (Int.tmod a0_1 8)) == 0)) else (none)) else (none)) else (none)) = some r := by (rw [hji9] at H; exact H)
  have hji9w : (IntKind.i64.wrap ((l0_0.length : Int) - 1)) = ji9 := (i64_w _).trans hji9
  by_cases c10 : 0 ≤ (ji9)
  rotate_left
  · rw [if_neg c10] at H; exact absurd H (by simp)
  rw [if_pos c10] at H; have c10b0 : decide (0 ≤ (ji9)) = true := decide_eq_true c10; clear c10
  by_cases c11 : (ji9) < (l0_0.length : Int)
  rotate_left
  · rw [if_neg c11] at H; exact absurd H (by simp)
  rw [if_pos c11] at H; have c11b0 : decide ((ji9) < (l0_0.length : Int)) = true := decide_eq_true c11; clear c11; obtain ⟨ji12, hji12⟩ : ∃ j_ : Int, (Int.tmod a0_1 8) = j_ := ⟨_, rfl⟩
  replace H : (if 0 ≤ (ji12) then (some ((shr .u8 (rd l0_0 (ji9)) (ji12)) == 0)) else (none)) = some r := by (rw [hji12] at H; exact H)
  (try rw [hji12] at c5b0)
  (try rw [hji12] at c5b1)
  (try rw [hji12] at c6b0)
  (try rw [hji12] at c6b1)
  by_cases c13 : 0 ≤ (ji12)
  · rw [if_pos c13] at H; have c13b0 := eq_true c13; have c13b1 : decide (0 ≤ (ji12)) = true := decide_eq_true c13; clear c13; obtain ⟨ji14, hji14⟩ : ∃ j_ : Int, (shr .u8 (rd l0_0 (ji9)) (ji12)) = j_ := ⟨_, rfl⟩
    replace H : (some ((ji14) == 0)) = some r := by (rw [hji14] at H; exact H)
    have hji14_ : ((rd l0_0 (ji9)) / 2 ^ min (ji12).toNat 8) = ji14 := hji14; have hji14z : (ji12) ≤ 8 → ((rd l0_0 (ji9)) / 2 ^ (ji12).toNat) = ji14 := shr_small hji14; obtain rfl := Option.some.inj H; go_enter Tryz.func52, Tryz.ntmps52
    go_wp2_with (((with_reducible refine gate_dst (N := 1) rfl ?_); (try (refine gate_guard (by rfl) ?_; dsimp only)); refine box_event ?hg (N := 1) ?hd (cs := #[.slice A0_0 l0_0.length c0_0, .int .i64 a0_1]) (t := 43) ?hr ?_; (case hd => rfl); (case hg => rfl); (case hr => (go_simp; done)); intro gb101 hg w15 hbox hb; replace BK101 := Ak (hbox); replace GW101 := Ak ((by rw [hg]; exact (below_size bl_) : w.heap.size ≤ gb101)); replace GE101 := Ak ((by rw [hg]; exact (below_size bl_) : w.heap.size ≤ gb101)); replace HB := Ak (below_step bl_ hb); clear hb hbox hg; have hcz16_0 : w15.cell? ⟨gb101, 0, none⟩ = some (.slice A0_0 l0_0.length c0_0) := (blk_cell BK101.out 0).trans rfl; have hcz16_1 : w15.cell? ⟨gb101, 1, none⟩ = some (.int .i64 a0_1) := (blk_cell BK101.out 1).trans rfl; have hfz16_0 := blk_frozen BK101.out 0; have hfz16_1 := blk_frozen BK101.out 1; have p102 : 0 ≤ ((ji9) : Int) := of_decide_eq_true (by (with_reducible assumption)); have q102 : (ji9) < (l0_0.length : Int) := of_decide_eq_true (by (with_reducible assumption)); obtain ⟨ad102, e102, hx102_0⟩ := Kd.at_int HR0_0.out (ji9) p102 q102; cases e102; replace hx102_0 := (HB.out.cell (World.block_lt_of_cell? w _ hx102_0)).trans hx102_0; replace p102 := eq_true p102; replace q102 := eq_true q102))
    repeat (go_quiet (fail); try go_wp2_with (fail))
    go_ret; exact ⟨by rfl, by repeat ((with_reducible first | exact HB.out | apply pw_below_drewN))⟩
  rw [if_neg c13] at H; exact absurd H (by simp)

def valiseref01_Bit.f (l0_0 : List Int) (a0_1 : Int) (a1 : Int) : Option (Int) := if 0 ≤ (wrap64 (Int.tdiv a1 8)) then (if (wrap64 (Int.tdiv a1 8)) < (l0_0.length : Int) then (if 0 ≤ (Int.tmod a1 8) then (some (Go.bits .and .i64 (wrap64 (shr .u8 (rd l0_0 (wrap64 (Int.tdiv a1 8))) (Int.tmod a1 8))) 1)) else (none)) else (none)) else (none)
theorem valiseref01_Bit.calls (A0_0 : Option Addr) (c0_0 : Nat) (l0_0 : List Int) (a0_1 : Int) (a1 : Int) (r : Int) (w : World) (hr0_0 : Kd.C (Kd.int .u8) w A0_0 l0_0.length l0_0) (hc0_0 : l0_0.length ≤ c0_0) (h : valiseref01_Bit.f l0_0 a0_1 a1 = some r) :
    Calls Tryz.prog 53 #[.agg #[.slice A0_0 l0_0.length c0_0, .int .i64 a0_1], .int .i64 a1] w fun e w' => e = .returned (.int .i64 r) ∧ Below w.heap.size w w' := by
  have hu43 := Tryz.underlying43; have HR0_0 := Ak hr0_0; have HC0_0 := Ak hc0_0; clear hr0_0 hc0_0; have HB := Ak (Below.refl w.heap.size w); have H : (if 0 ≤ (wrap64 (Int.tdiv a1 8)) then (if (wrap64 (Int.tdiv a1 8)) < (l0_0.length : Int) then (if 0 ≤ (Int.tmod a1 8) then (some (Go.bits .and .i64 (wrap64 (shr .u8 (rd l0_0 (wrap64 (Int.tdiv a1 8))) (Int.tmod a1 8))) 1)) else (none)) else (none)) else (none)) = some r := h; clear h; obtain ⟨ji3, hji3⟩ : ∃ j_ : Int, (wrap64 (Int.tdiv a1 8)) = j_ := ⟨_, rfl⟩
  replace H : (if 0 ≤ (ji3) then (if (ji3) < (l0_0.length : Int) then (if 0 ≤ (Int.tmod a1 8) then (some (Go.bits .and .i64 (wrap64 (shr .u8 (rd l0_0 (ji3)) (Int.tmod a1 8))) 1)) else (none)) else (none)) else (none)) = some r := by (rw [hji3] at H; exact H)
  have hji3w : (IntKind.i64.wrap (Int.tdiv a1 8)) = ji3 := (i64_w _).trans hji3
  by_cases c4 : 0 ≤ (ji3)
  rotate_left
  · rw [if_neg c4] at H; exact absurd H (by simp)
  rw [if_pos c4] at H; have c4b0 : decide (0 ≤ (ji3)) = true := decide_eq_true c4; clear c4
  by_cases c5 : (ji3) < (l0_0.length : Int)
  rotate_left
  · rw [if_neg c5] at H; exact absurd H (by simp)
  rw [if_pos c5] at H; have c5b0 : decide ((ji3) < (l0_0.length : Int)) = true := decide_eq_true c5; clear c5; obtain ⟨ji6, hji6⟩ : ∃ j_ : Int, (Int.tmod a1 8) = j_ := ⟨_, rfl⟩
  replace H : (if 0 ≤ (ji6) then (some (Go.bits .and .i64 (wrap64 (shr .u8 (rd l0_0 (ji3)) (ji6))) 1)) else (none)) = some r := by (rw [hji6] at H; exact H)
  by_cases c7 : 0 ≤ (ji6)
  rotate_left
  · rw [if_neg c7] at H; exact absurd H (by simp)
  rw [if_pos c7] at H; have c7b0 := eq_true c7; have c7b1 : decide (0 ≤ (ji6)) = true := decide_eq_true c7; clear c7; obtain ⟨ji8, hji8⟩ : ∃ j_ : Int, (shr .u8 (rd l0_0 (ji3)) (ji6)) = j_ := ⟨_, rfl⟩
  replace H : (some (Go.bits .and .i64 (wrap64 (ji8)) 1)) = some r := by (rw [hji8] at H; exact H)
  have hji8_ : ((rd l0_0 (ji3)) / 2 ^ min (ji6).toNat 8) = ji8 := hji8; have hji8z : (ji6) ≤ 8 → ((rd l0_0 (ji3)) / 2 ^ (ji6).toNat) = ji8 := shr_small hji8; obtain rfl := Option.some.inj H; go_enter Tryz.func53, Tryz.ntmps53
  go_wp2_with (((with_reducible refine gate_dst (N := 2) rfl ?_); refine box_event ?hg (N := 2) ?hd (cs := #[.slice A0_0 l0_0.length c0_0, .int .i64 a0_1]) (t := 43) ?hr ?_; (case hd => rfl); (case hg => rfl); (case hr => (go_simp; done)); intro gb103 hg w9 hbox hb; replace BK103 := Ak (hbox); replace GW103 := Ak ((by rw [hg]; exact (below_size bl_) : w.heap.size ≤ gb103)); replace GE103 := Ak ((by rw [hg]; exact (below_size bl_) : w.heap.size ≤ gb103)); replace HB := Ak (below_step bl_ hb); clear hb hbox hg; have hcz10_0 : w9.cell? ⟨gb103, 0, none⟩ = some (.slice A0_0 l0_0.length c0_0) := (blk_cell BK103.out 0).trans rfl; have hcz10_1 : w9.cell? ⟨gb103, 1, none⟩ = some (.int .i64 a0_1) := (blk_cell BK103.out 1).trans rfl; have hfz10_0 := blk_frozen BK103.out 0; have hfz10_1 := blk_frozen BK103.out 1; have p104 : 0 ≤ ((ji3) : Int) := of_decide_eq_true (by (with_reducible assumption)); have q104 : (ji3) < (l0_0.length : Int) := of_decide_eq_true (by (with_reducible assumption)); obtain ⟨ad104, e104, hx104_0⟩ := Kd.at_int HR0_0.out (ji3) p104 q104; cases e104; replace hx104_0 := (HB.out.cell (World.block_lt_of_cell? w _ hx104_0)).trans hx104_0; replace p104 := eq_true p104; replace q104 := eq_true q104))
  go_ret; exact ⟨by rfl, by repeat ((with_reducible exact HB.out))⟩

mutual
def valiseref01_Get.j0 : Nat → Int → Int → Bool → List Int → Int → Option (Int × Int)
  | 0, _, _, _, _, _ => none
  | k + 1, x1, x2, x30, x106000, x106001 => if x30 = true then (some (0, 2)) else (if (wrap64 (x106001 - x1)) < x2 then (some (0, 4)) else (valiseref01_Get.l0 k x1 x2 0 0 x106000 x106001))
def valiseref01_Get.l0 : Nat → Int → Int → Int → Int → List Int → Int → Option (Int × Int)
  | 0, _, _, _, _, _, _ => none
  | k + 1, x1, x2, x8, x9, x106000, x106001 => if x9 < x2 then ((valiseref01_Bit.f x106000 x106001 (wrap64 (x1 + x9))).bind fun t107 => (if 0 ≤ x9 then (valiseref01_Get.l0 k x1 x2 (wrap64 (x8 + (shl .i64 t107 x9))) (wrap64 (x9 + 1)) x106000 x106001) else (none))) else (some (x8, 0))
end
def valiseref01_Get.f (k : Nat) (l0_0 : List Int) (a0_1 : Int) (a1 : Int) (a2 : Int) : Option (Int × Int) := (valiseref01_Right.f l0_0 a0_1).bind fun t106 => (if t106 = true then (if a2 < 0 then (valiseref01_Get.j0 k a1 a2 true l0_0 a0_1) else (if a2 > 32 then (valiseref01_Get.j0 k a1 a2 true l0_0 a0_1) else (if a1 < 0 then (valiseref01_Get.j0 k a1 a2 true l0_0 a0_1) else (valiseref01_Get.j0 k a1 a2 (decide (a1 > a0_1)) l0_0 a0_1)))) else (valiseref01_Get.j0 k a1 a2 true l0_0 a0_1))
theorem valiseref01_Get.calls (k : Nat) (A0_0 : Option Addr) (c0_0 : Nat) (l0_0 : List Int) (a0_1 : Int) (a1 : Int) (a2 : Int) (r1 : Int) (r2 : Int) (w : World) (hr0_0 : Kd.C (Kd.int .u8) w A0_0 l0_0.length l0_0) (hc0_0 : l0_0.length ≤ c0_0) (h : valiseref01_Get.f k l0_0 a0_1 a1 a2 = some (r1, r2)) :
    Calls Tryz.prog 36 #[.agg #[.slice A0_0 l0_0.length c0_0, .int .i64 a0_1], .int .i64 a1, .int .i64 a2] w fun e w' => e = .returned (.tuple #[.int .i64 r1, .int .i64 r2]) ∧ Below w.heap.size w w' := by
  have hu43 := Tryz.underlying43; have HR0_0 := Ak hr0_0; have HC0_0 := Ak hc0_0; clear hr0_0 hc0_0; have HB := Ak (Below.refl w.heap.size w); have H : ((valiseref01_Right.f l0_0 a0_1).bind fun t106 => (if t106 = true then (if a2 < 0 then (valiseref01_Get.j0 k a1 a2 true l0_0 a0_1) else (if a2 > 32 then (valiseref01_Get.j0 k a1 a2 true l0_0 a0_1) else (if a1 < 0 then (valiseref01_Get.j0 k a1 a2 true l0_0 a0_1) else (valiseref01_Get.j0 k a1 a2 (decide (a1 > a0_1)) l0_0 a0_1)))) else (valiseref01_Get.j0 k a1 a2 true l0_0 a0_1))) = some (r1, r2) := h; clear h; have HC4 := Ak H; clear H; go_enter Tryz.func36, Tryz.ntmps36
  go_upto_region 1 with (((with_reducible refine gate_dst (N := 3) rfl ?_); refine box_event ?hg (N := 3) ?hd (cs := #[.slice A0_0 l0_0.length c0_0, .int .i64 a0_1]) (t := 43) ?hr ?_; (case hd => rfl); (case hg => rfl); (case hr => (go_simp; done)); intro gb105 hg w5 hbox hb; replace BK105 := Ak (hbox); replace GW105 := Ak ((by rw [hg]; exact (below_size bl_) : w.heap.size ≤ gb105)); replace GE105 := Ak ((by rw [hg]; exact (below_size bl_) : w.heap.size ≤ gb105)); replace HB := Ak (below_step bl_ hb); clear hb hbox hg))
  go_cut [30] (fun v30 wc => ∃ (kq : Nat) (x30_3 : Bool), v30 = .bool x30_3 ∧ Aside0 (valiseref01_Get.j0 kq a1 a2 x30_3 l0_0 a0_1 = some (r1, r2)) ∧ Aside0 (kq ≤ k) ∧ Aside0 (wc.heap[gb105]? = some (.cells #[(.slice A0_0 l0_0.length c0_0), .int .i64 a0_1] 43 (0, 0))) ∧ Aside0 (Below w.heap.size w wc))
  case first =>
    have H := HC4.out; clear HC4; replace H := Option.bind_eq_some_iff.mp H; obtain ⟨t106, A60, H⟩ := H; replace H : (if t106 = true then (if a2 < 0 then (valiseref01_Get.j0 k a1 a2 true l0_0 a0_1) else (if a2 > 32 then (valiseref01_Get.j0 k a1 a2 true l0_0 a0_1) else (if a1 < 0 then (valiseref01_Get.j0 k a1 a2 true l0_0 a0_1) else (valiseref01_Get.j0 k a1 a2 (decide (a1 > a0_1)) l0_0 a0_1)))) else (valiseref01_Get.j0 k a1 a2 true l0_0 a0_1)) = some (r1, r2) := H; have A6 := Ak A60; clear A60
    by_cases c7 : t106 = true
    rotate_left
    · replace c7 := Bool.eq_false_iff.mpr c7; subst c7
      have H1 : (valiseref01_Get.j0 k a1 a2 true l0_0 a0_1) = some (r1, r2) := by rw [if_neg (show ¬ (false = true) by decide)] at H; exact H
      clear H; have H := H1; clear H1; have H' := Ak H; clear H; have hcz20_0 : w5.cell? ⟨gb105, 0, none⟩ = some (.slice A0_0 l0_0.length c0_0) := (blk_cell BK105.out 0).trans rfl; have hcz20_1 : w5.cell? ⟨gb105, 1, none⟩ = some (.int .i64 a0_1) := (blk_cell BK105.out 1).trans rfl; have hfz20_0 := blk_frozen BK105.out 0; have hfz20_1 := blk_frozen BK105.out 1
      go_wp2_with (((with_reducible refine gate_callee (f := 52) rfl ?_); refine gl (some 11) Tryz.func52 #[.agg #[.slice A0_0 l0_0.length c0_0, .int .i64 a0_1]] ?_; (with_reducible refine (valiseref01_Right.calls _ _ l0_0 a0_1 false _ ?side1 ?side2 A6.out).mono ?_); (case side1 => repeat (exact (Kd.C_below HR0_0.out HB.out))); (case side2 => exact HC0_0.out); rintro e w21 ⟨rfl, hb⟩; refine ⟨_, rfl, ?_⟩; replace BK105 := Ak (blk_below (g := gb105) (o := .cells #[.slice A0_0 l0_0.length c0_0, .int .i64 a0_1] 43 (0, 0)) (by (with_reducible repeat (fail)); exact BK105.out) hb); replace HB := Ak (below_step (by repeat ((with_reducible exact HB.out))) hb); (try clear hb)))
      go_meet
      case rel => exact ⟨_, (true), (by rfl), H', ⟨by omega⟩, ⟨by (with_reducible repeat (fail)); exact BK105.out⟩, ⟨by repeat ((with_reducible exact HB.out))⟩⟩
    subst c7
    have H1 : (if a2 < 0 then (valiseref01_Get.j0 k a1 a2 true l0_0 a0_1) else (if a2 > 32 then (valiseref01_Get.j0 k a1 a2 true l0_0 a0_1) else (if a1 < 0 then (valiseref01_Get.j0 k a1 a2 true l0_0 a0_1) else (valiseref01_Get.j0 k a1 a2 (decide (a1 > a0_1)) l0_0 a0_1)))) = some (r1, r2) := by rw [if_pos rfl] at H; exact H
    clear H; have H := H1; clear H1
    by_cases c8 : a2 < 0
    · rw [if_pos c8] at H; have c8b0 : decide (a2 < 0) = true := decide_eq_true c8; clear c8
      have H' := Ak H; clear H; have hcz9_0 : w5.cell? ⟨gb105, 0, none⟩ = some (.slice A0_0 l0_0.length c0_0) := (blk_cell BK105.out 0).trans rfl; have hcz9_1 : w5.cell? ⟨gb105, 1, none⟩ = some (.int .i64 a0_1) := (blk_cell BK105.out 1).trans rfl; have hfz9_0 := blk_frozen BK105.out 0; have hfz9_1 := blk_frozen BK105.out 1
      go_wp2_with (((with_reducible refine gate_callee (f := 52) rfl ?_); refine gl (some 11) Tryz.func52 #[.agg #[.slice A0_0 l0_0.length c0_0, .int .i64 a0_1]] ?_; (with_reducible refine (valiseref01_Right.calls _ _ l0_0 a0_1 true _ ?side1 ?side2 A6.out).mono ?_); (case side1 => repeat (exact (Kd.C_below HR0_0.out HB.out))); (case side2 => exact HC0_0.out); rintro e w10 ⟨rfl, hb⟩; refine ⟨_, rfl, ?_⟩; replace BK105 := Ak (blk_below (g := gb105) (o := .cells #[.slice A0_0 l0_0.length c0_0, .int .i64 a0_1] 43 (0, 0)) (by (with_reducible repeat (fail)); exact BK105.out) hb); replace HB := Ak (below_step (by repeat ((with_reducible exact HB.out))) hb); (try clear hb)))
      go_meet
      case rel => exact ⟨_, (true), (by rfl), H', ⟨by omega⟩, ⟨by (with_reducible repeat (fail)); exact BK105.out⟩, ⟨by repeat ((with_reducible exact HB.out))⟩⟩
    rw [if_neg c8] at H; have c8b0 : decide (a2 < 0) = false := decide_eq_false c8; clear c8
    by_cases c11 : a2 > 32
    · rw [if_pos c11] at H; have c11b0 : decide (32 < a2) = true := decide_eq_true c11; clear c11; have H' := Ak H; clear H; have hcz12_0 : w5.cell? ⟨gb105, 0, none⟩ = some (.slice A0_0 l0_0.length c0_0) := (blk_cell BK105.out 0).trans rfl; have hcz12_1 : w5.cell? ⟨gb105, 1, none⟩ = some (.int .i64 a0_1) := (blk_cell BK105.out 1).trans rfl; have hfz12_0 := blk_frozen BK105.out 0; have hfz12_1 := blk_frozen BK105.out 1
      go_wp2_with (((with_reducible refine gate_callee (f := 52) rfl ?_); refine gl (some 11) Tryz.func52 #[.agg #[.slice A0_0 l0_0.length c0_0, .int .i64 a0_1]] ?_; (with_reducible refine (valiseref01_Right.calls _ _ l0_0 a0_1 true _ ?side1 ?side2 A6.out).mono ?_); (case side1 => repeat (exact (Kd.C_below HR0_0.out HB.out))); (case side2 => exact HC0_0.out); rintro e w13 ⟨rfl, hb⟩; refine ⟨_, rfl, ?_⟩; replace BK105 := Ak (blk_below (g := gb105) (o := .cells #[.slice A0_0 l0_0.length c0_0, .int .i64 a0_1] 43 (0, 0)) (by (with_reducible repeat (fail)); exact BK105.out) hb); replace HB := Ak (below_step (by repeat ((with_reducible exact HB.out))) hb); (try clear hb)))
      go_meet
      case rel => exact ⟨_, (true), (by rfl), H', ⟨by omega⟩, ⟨by (with_reducible repeat (fail)); exact BK105.out⟩, ⟨by repeat ((with_reducible exact HB.out))⟩⟩
    rw [if_neg c11] at H; have c11b0 : decide (32 < a2) = false := decide_eq_false c11; clear c11
    by_cases c14 : a1 < 0
    · rw [if_pos c14] at H; have c14b0 : decide (a1 < 0) = true := decide_eq_true c14; clear c14; have H' := Ak H; clear H; have hcz15_0 : w5.cell? ⟨gb105, 0, none⟩ = some (.slice A0_0 l0_0.length c0_0) := (blk_cell BK105.out 0).trans rfl; have hcz15_1 : w5.cell? ⟨gb105, 1, none⟩ = some (.int .i64 a0_1) := (blk_cell BK105.out 1).trans rfl; have hfz15_0 := blk_frozen BK105.out 0; have hfz15_1 := blk_frozen BK105.out 1
      go_wp2_with (((with_reducible refine gate_callee (f := 52) rfl ?_); refine gl (some 11) Tryz.func52 #[.agg #[.slice A0_0 l0_0.length c0_0, .int .i64 a0_1]] ?_; (with_reducible refine (valiseref01_Right.calls _ _ l0_0 a0_1 true _ ?side1 ?side2 A6.out).mono ?_); (case side1 => repeat (exact (Kd.C_below HR0_0.out HB.out))); (case side2 => exact HC0_0.out); rintro e w16 ⟨rfl, hb⟩; refine ⟨_, rfl, ?_⟩; replace BK105 := Ak (blk_below (g := gb105) (o := .cells #[.slice A0_0 l0_0.length c0_0, .int .i64 a0_1] 43 (0, 0)) (by (with_reducible repeat (fail)); exact BK105.out) hb); replace HB := Ak (below_step (by repeat ((with_reducible exact HB.out))) hb); (try clear hb)))
      go_meet
      case rel => exact ⟨_, (true), (by rfl), H', ⟨by omega⟩, ⟨by (with_reducible repeat (fail)); exact BK105.out⟩, ⟨by repeat ((with_reducible exact HB.out))⟩⟩
    rw [if_neg c14] at H; have c14b0 : decide (a1 < 0) = false := decide_eq_false c14; clear c14; have H' := Ak H; clear H; have hcz17_0 : w5.cell? ⟨gb105, 0, none⟩ = some (.slice A0_0 l0_0.length c0_0) := (blk_cell BK105.out 0).trans rfl; have hcz17_1 : w5.cell? ⟨gb105, 1, none⟩ = some (.int .i64 a0_1) := (blk_cell BK105.out 1).trans rfl; have hfz17_0 := blk_frozen BK105.out 0; have hfz17_1 := blk_frozen BK105.out 1
    go_wp2_with (((with_reducible refine gate_callee (f := 52) rfl ?_); refine gl (some 11) Tryz.func52 #[.agg #[.slice A0_0 l0_0.length c0_0, .int .i64 a0_1]] ?_; (with_reducible refine (valiseref01_Right.calls _ _ l0_0 a0_1 true _ ?side1 ?side2 A6.out).mono ?_); (case side1 => repeat (exact (Kd.C_below HR0_0.out HB.out))); (case side2 => exact HC0_0.out); rintro e w18 ⟨rfl, hb⟩; refine ⟨_, rfl, ?_⟩; replace BK105 := Ak (blk_below (g := gb105) (o := .cells #[.slice A0_0 l0_0.length c0_0, .int .i64 a0_1] 43 (0, 0)) (by (with_reducible repeat (fail)); exact BK105.out) hb); replace HB := Ak (below_step (by repeat ((with_reducible exact HB.out))) hb); (try clear hb); have hcz19_0 : w18.cell? ⟨gb105, 0, none⟩ = some (.slice A0_0 l0_0.length c0_0) := (blk_cell BK105.out 0).trans rfl; have hcz19_1 : w18.cell? ⟨gb105, 1, none⟩ = some (.int .i64 a0_1) := (blk_cell BK105.out 1).trans rfl; have hfz19_0 := blk_frozen BK105.out 0; have hfz19_1 := blk_frozen BK105.out 1))
    go_meet
    case rel => exact ⟨_, (decide (a1 > a0_1)), (by rfl), H', ⟨by omega⟩, ⟨by (with_reducible repeat (fail)); exact BK105.out⟩, ⟨by repeat ((with_reducible exact HB.out))⟩⟩
  case rest =>
    clear HC4
    obtain ⟨kq, x30_3, rfl, HA, HJ3, BK105, HB⟩ := hcut
    cases kq with
    | zero => exact absurd HA.out (by simp [valiseref01_Get.j0])
    | succ kj3 => ?_
    have H := HA.out; clear HA; simp only [valiseref01_Get.j0] at H
    by_cases c22 : x30_3 = true
    · subst c22
      have H1 : (some (0, 2)) = some (r1, r2) := by rw [if_pos rfl] at H; exact H
      clear H; have H := H1; clear H1; simp only [Option.some.injEq, Prod.mk.injEq] at H; obtain ⟨rfl, rfl⟩ := H; go_wp2; go_ret2; exact ⟨by rfl, by repeat ((with_reducible exact HB.out))⟩
    replace c22 := Bool.eq_false_iff.mpr c22; subst c22
    have H1 : (if (wrap64 (a0_1 - a1)) < a2 then (some (0, 4)) else (valiseref01_Get.l0 kj3 a1 a2 0 0 l0_0 a0_1)) = some (r1, r2) := by rw [if_neg (show ¬ (false = true) by decide)] at H; exact H
    clear H; have H := H1; clear H1
    by_cases c23 : (wrap64 (a0_1 - a1)) < a2
    · rw [if_pos c23] at H; have c23b0 : decide ((wrap64 (a0_1 - a1)) < a2) = true := decide_eq_true c23; clear c23; simp only [Option.some.injEq, Prod.mk.injEq] at H; obtain ⟨rfl, rfl⟩ := H; have hcz24_0 : wc.cell? ⟨gb105, 0, none⟩ = some (.slice A0_0 l0_0.length c0_0) := (blk_cell BK105.out 0).trans rfl; have hcz24_1 : wc.cell? ⟨gb105, 1, none⟩ = some (.int .i64 a0_1) := (blk_cell BK105.out 1).trans rfl; have hfz24_0 := blk_frozen BK105.out 0; have hfz24_1 := blk_frozen BK105.out 1; go_wp2; go_ret2; exact ⟨by rfl, by repeat ((with_reducible exact HB.out))⟩
    rw [if_neg c23] at H; have c23b0 : decide ((wrap64 (a0_1 - a1)) < a2) = false := decide_eq_false c23; clear c23; have H' := Ak H; clear H; have hcz25_0 : wc.cell? ⟨gb105, 0, none⟩ = some (.slice A0_0 l0_0.length c0_0) := (blk_cell BK105.out 0).trans rfl; have hcz25_1 : wc.cell? ⟨gb105, 1, none⟩ = some (.int .i64 a0_1) := (blk_cell BK105.out 1).trans rfl; have hfz25_0 := blk_frozen BK105.out 0; have hfz25_1 := blk_frozen BK105.out 1; go_wp2
    go_loopg [8, 9] kj3 (fun kq v8 v9 w' => ∃ (x8_2 : Int) (x9_2 : Int), v8 = .int .i64 x8_2 ∧ v9 = .int .i64 x9_2 ∧ Aside0 (valiseref01_Get.l0 kq a1 a2 x8_2 x9_2 l0_0 a0_1 = some (r1, r2)) ∧ Aside0 (kq ≤ kj3) ∧ Aside0 (w'.heap[gb105]? = some (.cells #[(.slice A0_0 l0_0.length c0_0), .int .i64 a0_1] 43 (0, 0))) ∧ Aside0 (Below w.heap.size w w'))
    case atStart => exact ⟨(0), (0), (by rfl), (by rfl), H', ⟨Nat.le_refl _⟩, ⟨by (with_reducible repeat (fail)); exact BK105.out⟩, ⟨by repeat ((with_reducible exact HB.out))⟩⟩
    case round =>
      clear H'
      clear c23b0 hcz25_0 hcz25_1 hfz25_0 hfz25_1
      obtain ⟨x8_2, x9_2, rfl, rfl, HA, HK2, BK105, HB⟩ := hrel
      cases gk with
      | zero => exact absurd HA.out (by simp [valiseref01_Get.l0])
      | succ k2 => ?_
      have H := HA.out; clear HA; simp only [valiseref01_Get.l0] at H
      by_cases c26 : x9_2 < a2
      rotate_left
      · rw [if_neg c26] at H; have c26b0 : decide (x9_2 < a2) = false := decide_eq_false c26; clear c26; simp only [Option.some.injEq, Prod.mk.injEq] at H; obtain ⟨rfl, rfl⟩ := H; go_wp2; go_ret2; exact ⟨by rfl, by repeat ((with_reducible exact HB.out))⟩
      rw [if_pos c26] at H; have c26b0 : decide (x9_2 < a2) = true := decide_eq_true c26; clear c26; replace H := Option.bind_eq_some_iff.mp H; obtain ⟨t107, A270, H⟩ := H; replace H : (if 0 ≤ x9_2 then (valiseref01_Get.l0 k2 a1 a2 (wrap64 (x8_2 + (shl .i64 t107 x9_2))) (wrap64 (x9_2 + 1)) l0_0 a0_1) else (none)) = some (r1, r2) := H; have A27 := Ak A270; clear A270
      by_cases c28 : 0 ≤ x9_2
      rotate_left
      · rw [if_neg c28] at H; exact absurd H (by simp)
      rw [if_pos c28] at H; have c28b0 := eq_true c28; have c28b1 : decide (0 ≤ x9_2) = true := decide_eq_true c28; clear c28; obtain ⟨ji29, hji29⟩ : ∃ j_ : Int, (shl .i64 t107 x9_2) = j_ := ⟨_, rfl⟩
      replace H : (valiseref01_Get.l0 k2 a1 a2 (wrap64 (x8_2 + (ji29))) (wrap64 (x9_2 + 1)) l0_0 a0_1) = some (r1, r2) := by (rw [hji29] at H; exact H)
      have hji29_ : (IntKind.i64.wrap (t107 * 2 ^ min x9_2.toNat 64)) = ji29 := hji29; have hji29z : x9_2 ≤ 64 → (IntKind.i64.wrap (t107 * 2 ^ x9_2.toNat)) = ji29 := shl_small hji29; have hji29y : (wrap64 (t107 * 2 ^ min x9_2.toNat 64)) = ji29 := (i64_w _).symm.trans hji29_; have hji29x : x9_2 ≤ 64 → (wrap64 (t107 * 2 ^ x9_2.toNat)) = ji29 := fun h_ => (i64_w _).symm.trans (hji29z h_); have H' := Ak H; clear H; have hcz30_0 : wr.cell? ⟨gb105, 0, none⟩ = some (.slice A0_0 l0_0.length c0_0) := (blk_cell BK105.out 0).trans rfl; have hcz30_1 : wr.cell? ⟨gb105, 1, none⟩ = some (.int .i64 a0_1) := (blk_cell BK105.out 1).trans rfl; have hfz30_0 := blk_frozen BK105.out 0; have hfz30_1 := blk_frozen BK105.out 1
      go_wp2_with (((with_reducible refine gate_callee (f := 53) rfl ?_); refine gl (some 47) Tryz.func53 #[.agg #[.slice A0_0 l0_0.length c0_0, .int .i64 a0_1], .int .i64 (wrap64 (a1 + x9_2))] ?_; (with_reducible refine (valiseref01_Bit.calls _ _ l0_0 a0_1 (wrap64 (a1 + x9_2)) t107 _ ?side1 ?side2 A27.out).mono ?_); (case side1 => repeat (exact (Kd.C_below HR0_0.out HB.out))); (case side2 => exact HC0_0.out); rintro e w31 ⟨rfl, hb⟩; refine ⟨_, rfl, ?_⟩; replace BK105 := Ak (blk_below (g := gb105) (o := .cells #[.slice A0_0 l0_0.length c0_0, .int .i64 a0_1] 43 (0, 0)) (by (with_reducible repeat (fail)); exact BK105.out) hb); replace HB := Ak (below_step (by repeat ((with_reducible exact HB.out))) hb); (try clear hb)))
      go_roundg k2
      case measure => have := HJ3.out; have := HK2.out; omega
      case rel => exact ⟨(wrap64 (x8_2 + (ji29))), (wrap64 (x9_2 + 1)), (by rfl), (by rfl), H', ⟨by have := HJ3.out; have := HK2.out; omega⟩, ⟨by (with_reducible repeat (fail)); exact BK105.out⟩, ⟨by repeat ((with_reducible exact HB.out))⟩⟩

mutual
def valiseref04_Lengths.j0 : Nat → List Int → Bool → Option (Bool)
  | 0, _, _ => none
  | k + 1, x0, x11 => if x11 = true then (some false) else (valiseref04_Lengths.l0 k x0 0)
def valiseref04_Lengths.l0 : Nat → List Int → Int → Option (Bool)
  | 0, _, _ => none
  | k + 1, x0, x3 => if x3 < (x0.length : Int) then (if 0 ≤ x3 then (if (rd x0 x3) < 0 then (some false) else (if (rd x0 x3) > 15 then (some false) else (valiseref04_Lengths.l0 k x0 (wrap64 (x3 + 1))))) else (none)) else (some true)
end
def valiseref04_Lengths.f (k : Nat) (l0 : List Int) : Option (Bool) := if (l0.length : Int) = 0 then (valiseref04_Lengths.j0 k l0 true) else (valiseref04_Lengths.j0 k l0 (decide ((l0.length : Int) > 288)))
theorem valiseref04_Lengths.calls (k : Nat) (A0 : Option Addr) (c0 : Nat) (l0 : List Int) (r : Bool) (w : World) (hr0 : Kd.C (Kd.int .i64) w A0 l0.length l0) (hc0 : l0.length ≤ c0) (h : valiseref04_Lengths.f k l0 = some r) :
    Calls Tryz.prog 81 #[.slice A0 l0.length c0] w fun e w' => e = .returned (.bool r) ∧ Drawn0 w w' := by
  have HR0 := Ak hr0; have HC0 := Ak hc0; clear hr0 hc0; have H : (if (l0.length : Int) = 0 then (valiseref04_Lengths.j0 k l0 true) else (valiseref04_Lengths.j0 k l0 (decide ((l0.length : Int) > 288)))) = some r := h; clear h; have HC2 := Ak H; clear H; go_enter Tryz.func81, Tryz.ntmps81
  go_upto_region 1 with (fail)
  go_cut [11] (fun v11 wc => ∃ (kq : Nat) (x11_1 : Bool), v11 = .bool x11_1 ∧ Aside0 (valiseref04_Lengths.j0 kq l0 x11_1 = some r) ∧ Aside0 (kq ≤ k) ∧ Drawn0 w wc)
  case first =>
    have H := HC2.out; clear HC2
    by_cases c3 : (l0.length : Int) = 0
    · rw [if_pos c3] at H; have c3b0 : ((l0.length : Int) == 0) = true := beq_iff_eq.mpr c3; have c3b1 : ((l0.length : Int) != 0) = false := bne_eq_false_iff_eq.mpr c3; clear c3
      have H' := Ak H; clear H; go_wp2
      go_meet
      case rel => exact ⟨_, (true), (by rfl), H', ⟨by omega⟩, by repeat (exact Drawn0.refl _)⟩
    rw [if_neg c3] at H; have c3b0 : ((l0.length : Int) == 0) = false := beq_eq_false_iff_ne.mpr c3; have c3b1 : ((l0.length : Int) != 0) = true := bne_iff_ne.mpr c3; have c3b2 : ¬ (l0 = []) := fun h_ => c3 (by rw [h_]; rfl)
    have H' := Ak H; clear H; go_wp2
    go_meet
    case rel => exact ⟨_, (decide ((l0.length : Int) > 288)), (by rfl), H', ⟨by omega⟩, by repeat (exact Drawn0.refl _)⟩
  case rest =>
    clear HC2
    obtain ⟨kq, x11_1, rfl, HA, HJ1, ⟨mc1, rfl⟩⟩ := hcut
    cases kq with
    | zero => exact absurd HA.out (by simp [valiseref04_Lengths.j0])
    | succ kj1 => ?_
    have H := HA.out; clear HA; simp only [valiseref04_Lengths.j0] at H
    by_cases c4 : x11_1 = true
    · subst c4
      have H1 : (some false) = some r := by rw [if_pos rfl] at H; exact H
      clear H; have H := H1; clear H1; obtain rfl := Option.some.inj H; go_wp2; go_ret; exact ⟨by rfl, by repeat (first | exact Drawn0.refl _ | apply Drawn0.step)⟩
    replace c4 := Bool.eq_false_iff.mpr c4; subst c4
    have H1 : (valiseref04_Lengths.l0 kj1 l0 0) = some r := by rw [if_neg (show ¬ (false = true) by decide)] at H; exact H
    clear H; have H := H1; clear H1; have H' := Ak H; clear H; go_wp2
    go_loopg [3] kj1 (fun kq v3 w' => ∃ (x3_2 : Int), v3 = .int .i64 x3_2 ∧ Aside0 (valiseref04_Lengths.l0 kq l0 x3_2 = some r) ∧ Aside0 (kq ≤ kj1) ∧ Drawn0 w w')
    case atStart => exact ⟨(0), (by rfl), H', ⟨Nat.le_refl _⟩, by repeat (first | exact Drawn0.refl _ | apply Drawn0.step)⟩
    case round =>
      clear H'
      obtain ⟨x3_2, rfl, HA, HK2, ⟨m2, rfl⟩⟩ := hrel
      cases gk with
      | zero => exact absurd HA.out (by simp [valiseref04_Lengths.l0])
      | succ k2 => ?_
      have H := HA.out; clear HA; simp only [valiseref04_Lengths.l0] at H
      by_cases c5 : x3_2 < (l0.length : Int)
      rotate_left
      · rw [if_neg c5] at H; have c5b0 : decide (x3_2 < (l0.length : Int)) = false := decide_eq_false c5; clear c5; obtain rfl := Option.some.inj H; go_wp2; go_ret; exact ⟨by rfl, by repeat (first | exact Drawn0.refl _ | apply Drawn0.step)⟩
      rw [if_pos c5] at H; have c5b0 : decide (x3_2 < (l0.length : Int)) = true := decide_eq_true c5; clear c5
      by_cases c6 : 0 ≤ x3_2
      rotate_left
      · rw [if_neg c6] at H; exact absurd H (by simp)
      rw [if_pos c6] at H; have c6b0 : decide (0 ≤ x3_2) = true := decide_eq_true c6; clear c6
      by_cases c7 : (rd l0 x3_2) < 0
      · rw [if_pos c7] at H; have c7b0 : decide ((rd l0 x3_2) < 0) = true := decide_eq_true c7; clear c7; obtain rfl := Option.some.inj H; have p108 : 0 ≤ (x3_2 : Int) := of_decide_eq_true (by (with_reducible assumption)); have q108 : x3_2 < (l0.length : Int) := of_decide_eq_true (by (with_reducible assumption)); obtain ⟨ad108, e108, hx108_0⟩ := Kd.at_int HR0.out x3_2 p108 q108; cases e108; replace p108 := eq_true p108; replace q108 := eq_true q108; go_wp2; go_ret; exact ⟨by rfl, by repeat (first | exact Drawn0.refl _ | apply Drawn0.step)⟩
      rw [if_neg c7] at H; have c7b0 : decide ((rd l0 x3_2) < 0) = false := decide_eq_false c7; clear c7
      by_cases c8 : (rd l0 x3_2) > 15
      · rw [if_pos c8] at H; have c8b0 : decide (15 < (rd l0 x3_2)) = true := decide_eq_true c8; clear c8; obtain rfl := Option.some.inj H; have p108 : 0 ≤ (x3_2 : Int) := of_decide_eq_true (by (with_reducible assumption)); have q108 : x3_2 < (l0.length : Int) := of_decide_eq_true (by (with_reducible assumption)); obtain ⟨ad108, e108, hx108_0⟩ := Kd.at_int HR0.out x3_2 p108 q108; cases e108; replace p108 := eq_true p108; replace q108 := eq_true q108; have p109 : 0 ≤ (x3_2 : Int) := of_decide_eq_true (by (with_reducible assumption)); have q109 : x3_2 < (l0.length : Int) := of_decide_eq_true (by (with_reducible assumption)); obtain ⟨ad109, e109, hx109_0⟩ := Kd.at_int HR0.out x3_2 p109 q109; obtain rfl : ad108 = ad109 := (by injection e109); replace p109 := eq_true p109; replace q109 := eq_true q109; go_wp2; go_ret; exact ⟨by rfl, by repeat (first | exact Drawn0.refl _ | apply Drawn0.step)⟩
      rw [if_neg c8] at H; have c8b0 : decide (15 < (rd l0 x3_2)) = false := decide_eq_false c8; clear c8; have H' := Ak H; clear H; have p108 : 0 ≤ (x3_2 : Int) := of_decide_eq_true (by (with_reducible assumption)); have q108 : x3_2 < (l0.length : Int) := of_decide_eq_true (by (with_reducible assumption)); obtain ⟨ad108, e108, hx108_0⟩ := Kd.at_int HR0.out x3_2 p108 q108; cases e108; replace p108 := eq_true p108; replace q108 := eq_true q108; have p109 : 0 ≤ (x3_2 : Int) := of_decide_eq_true (by (with_reducible assumption)); have q109 : x3_2 < (l0.length : Int) := of_decide_eq_true (by (with_reducible assumption)); obtain ⟨ad109, e109, hx109_0⟩ := Kd.at_int HR0.out x3_2 p109 q109; obtain rfl : ad108 = ad109 := (by injection e109); replace p109 := eq_true p109; replace q109 := eq_true q109; go_wp2
      go_roundg k2
      case measure => have := HJ1.out; have := HK2.out; omega
      case rel => exact ⟨(wrap64 (x3_2 + 1)), (by rfl), H', ⟨by have := HJ1.out; have := HK2.out; omega⟩, by repeat (first | exact Drawn0.refl _ | apply Drawn0.step)⟩

def valiseref04_Takes.l0 : Nat → List Int → Int → Int → Option (Int)
  | 0, _, _, _ => none
  | k + 1, x0, x3, x4 => if x4 < (x0.length : Int) then (if 0 ≤ x4 then (if (rd x0 x4) > 0 then (if 0 ≤ (wrap64 (15 - (rd x0 x4))) then (valiseref04_Takes.l0 k x0 (wrap64 (x3 + (shl .i64 1 (wrap64 (15 - (rd x0 x4)))))) (wrap64 (x4 + 1))) else (none)) else (valiseref04_Takes.l0 k x0 x3 (wrap64 (x4 + 1)))) else (none)) else (some x3)
def valiseref04_Takes.f (k : Nat) (l0 : List Int) : Option (Int) := valiseref04_Takes.l0 k l0 0 0
theorem valiseref04_Takes.calls (k : Nat) (A0 : Option Addr) (c0 : Nat) (l0 : List Int) (r : Int) (w : World) (hr0 : Kd.C (Kd.int .i64) w A0 l0.length l0) (hc0 : l0.length ≤ c0) (h : valiseref04_Takes.f k l0 = some r) :
    Calls Tryz.prog 82 #[.slice A0 l0.length c0] w fun e w' => e = .returned (.int .i64 r) ∧ Drawn0 w w' := by
  have HR0 := Ak hr0; have HC0 := Ak hc0; clear hr0 hc0; have H : (valiseref04_Takes.l0 k l0 0 0) = some r := h; clear h; have H' := Ak H; clear H; go_enter Tryz.func82, Tryz.ntmps82; go_wp2
  go_loopg [3, 4] k (fun kq v3 v4 w' => ∃ (x3_1 : Int) (x4_1 : Int), v3 = .int .i64 x3_1 ∧ v4 = .int .i64 x4_1 ∧ Aside0 (valiseref04_Takes.l0 kq l0 x3_1 x4_1 = some r) ∧ Aside0 (kq ≤ k) ∧ Drawn0 w w')
  case atStart => exact ⟨(0), (0), (by rfl), (by rfl), H', ⟨Nat.le_refl _⟩, by repeat (exact Drawn0.refl _)⟩
  case round =>
    clear H'; obtain ⟨x3_1, x4_1, rfl, rfl, HA, HK1, ⟨m1, rfl⟩⟩ := hrel
    cases gk with
    | zero => exact absurd HA.out (by simp [valiseref04_Takes.l0])
    | succ k1 => ?_
    have H := HA.out; clear HA; simp only [valiseref04_Takes.l0] at H
    by_cases c2 : x4_1 < (l0.length : Int)
    rotate_left
    · rw [if_neg c2] at H; have c2b0 : decide (x4_1 < (l0.length : Int)) = false := decide_eq_false c2; clear c2; obtain rfl := Option.some.inj H; go_wp2; go_ret; exact ⟨by rfl, by repeat (first | exact Drawn0.refl _ | apply Drawn0.step)⟩
    rw [if_pos c2] at H; have c2b0 : decide (x4_1 < (l0.length : Int)) = true := decide_eq_true c2; clear c2
    by_cases c3 : 0 ≤ x4_1
    rotate_left
    · rw [if_neg c3] at H; exact absurd H (by simp)
    rw [if_pos c3] at H; have c3b0 : decide (0 ≤ x4_1) = true := decide_eq_true c3; clear c3
    by_cases c4 : (rd l0 x4_1) > 0
    rotate_left
    · rw [if_neg c4] at H; have c4b0 : decide (0 < (rd l0 x4_1)) = false := decide_eq_false c4; clear c4; have H' := Ak H; clear H; have p110 : 0 ≤ (x4_1 : Int) := of_decide_eq_true (by (with_reducible assumption)); have q110 : x4_1 < (l0.length : Int) := of_decide_eq_true (by (with_reducible assumption)); obtain ⟨ad110, e110, hx110_0⟩ := Kd.at_int HR0.out x4_1 p110 q110; cases e110; replace p110 := eq_true p110; replace q110 := eq_true q110; go_wp2
      go_roundg k1
      case measure => have := HK1.out; omega
      case rel => exact ⟨(x3_1), (wrap64 (x4_1 + 1)), (by rfl), (by rfl), H', ⟨by have := HK1.out; omega⟩, by repeat (first | exact Drawn0.refl _ | apply Drawn0.step)⟩
    rw [if_pos c4] at H; have c4b0 : decide (0 < (rd l0 x4_1)) = true := decide_eq_true c4; clear c4; obtain ⟨ji5, hji5⟩ : ∃ j_ : Int, (wrap64 (15 - (rd l0 x4_1))) = j_ := ⟨_, rfl⟩
    replace H : (if 0 ≤ (ji5) then (valiseref04_Takes.l0 k1 l0 (wrap64 (x3_1 + (shl .i64 1 (ji5)))) (wrap64 (x4_1 + 1))) else (none)) = some r := by (rw [hji5] at H; exact H)
    have hji5w : (IntKind.i64.wrap (15 - (rd l0 x4_1))) = ji5 := (i64_w _).trans hji5
    by_cases c6 : 0 ≤ (ji5)
    rotate_left
    · rw [if_neg c6] at H; exact absurd H (by simp)
    rw [if_pos c6] at H; have c6b0 := eq_true c6; have c6b1 : decide (0 ≤ (ji5)) = true := decide_eq_true c6; clear c6; obtain ⟨ji7, hji7⟩ : ∃ j_ : Int, (shl .i64 1 (ji5)) = j_ := ⟨_, rfl⟩
    replace H : (valiseref04_Takes.l0 k1 l0 (wrap64 (x3_1 + (ji7))) (wrap64 (x4_1 + 1))) = some r := by (rw [hji7] at H; exact H)
    have hji7_ : (IntKind.i64.wrap (1 * 2 ^ min (ji5).toNat 64)) = ji7 := hji7; have hji7z : (ji5) ≤ 64 → (IntKind.i64.wrap (1 * 2 ^ (ji5).toNat)) = ji7 := shl_small hji7
    have hji7u : (IntKind.i64.wrap (2 ^ min (ji5).toNat 64)) = ji7 := by have h_ := hji7_; rw [Int.one_mul] at h_; exact h_
    have hji7v : (ji5) ≤ 64 → (IntKind.i64.wrap (2 ^ (ji5).toNat)) = ji7 := fun hle_ => by have h_ := hji7z hle_; rw [Int.one_mul] at h_; exact h_
    have hji7y : (wrap64 (1 * 2 ^ min (ji5).toNat 64)) = ji7 := (i64_w _).symm.trans hji7_; have hji7x : (ji5) ≤ 64 → (wrap64 (1 * 2 ^ (ji5).toNat)) = ji7 := fun h_ => (i64_w _).symm.trans (hji7z h_); have H' := Ak H; clear H; have p110 : 0 ≤ (x4_1 : Int) := of_decide_eq_true (by (with_reducible assumption)); have q110 : x4_1 < (l0.length : Int) := of_decide_eq_true (by (with_reducible assumption)); obtain ⟨ad110, e110, hx110_0⟩ := Kd.at_int HR0.out x4_1 p110 q110; cases e110; replace p110 := eq_true p110; replace q110 := eq_true q110; have p111 : 0 ≤ (x4_1 : Int) := of_decide_eq_true (by (with_reducible assumption)); have q111 : x4_1 < (l0.length : Int) := of_decide_eq_true (by (with_reducible assumption)); obtain ⟨ad111, e111, hx111_0⟩ := Kd.at_int HR0.out x4_1 p111 q111; obtain rfl : ad110 = ad111 := (by injection e111); replace p111 := eq_true p111; replace q111 := eq_true q111; go_wp2
    go_roundg k1
    case measure => have := HK1.out; omega
    case rel => exact ⟨(wrap64 (x3_1 + (ji7))), (wrap64 (x4_1 + 1)), (by rfl), (by rfl), H', ⟨by have := HK1.out; omega⟩, by repeat (first | exact Drawn0.refl _ | apply Drawn0.step)⟩

end Go.Proofs.YtgflkkjhckcipaaGreatDoor.Pv

-- YtgflkkjhckcipaaGreatDoorIf41
namespace Go.Proofs.YtgflkkjhckcipaaGreatDoor.Pr
open Go.RowKit Go.Shelf Go.Proofs.YtgflkkjhckcipaaGreatDoorW.PrintWords Go.Proofs.YtgflkkjhckcipaaGreatDoorW.PrintLast Go.Proofs.YtgflkkjhckcipaaGreatDoorW.PrintMore
set_option linter.unusedVariables false
set_option linter.unusedSimpArgs false
structure StAt (w0 w : World) (g : Nat) (A : Option Addr) (c : Nat) (l : List Int) (N at_ : Int) (v : Value) (out : List Int) (most : Int) : Prop where
  below : Below w0.heap.size w0 w
  ge : w0.heap.size ≤ g
  blk : w.heap[g]? = some (.cells #[.slice A l.length c, .int .i64 N, .int .i64 at_, v, .int .i64 most] 48 (0, 0))
  row : (Kd.int .u8).R 5 w w0.heap.size (fun _ => True) v out
theorem StAt.on {w0 w w' : World} {g c : Nat} {A : Option Addr} {l : List Int} {N at_ : Int} {v : Value} {out : List Int} {most : Int} (h : StAt w0 w g A c l N at_ v out most) (hb : Below w.heap.size w w') : StAt w0 w' g A c l N at_ v out most :=
  ⟨below_then h.below h.below.size hb, h.ge, blk_below h.blk hb, Kd.R_below h.row hb⟩
theorem StAt.setAt {w0 w : World} {g c : Nat} {A : Option Addr} {l : List Int} {N at_ : Int} {v : Value} {out : List Int} {most : Int} (h : StAt w0 w g A c l N at_ v out most) (x : Int) : StAt w0 (w.setCell ⟨g, 2, none⟩ (.int .i64 x)) g A c l N x v out most :=
  ⟨h.below.setCell (p := ⟨g, 2, none⟩) h.ge _, h.ge, blk_set h.blk 2 _, Kd.R_set h.row h.blk (by decide) 2 _⟩
theorem StAt.between {w0 w w1 : World} {g c c1 : Nat} {A A1 : Option Addr} {l l1 : List Int} {N at_ N1 at1 : Int} {v v1 : Value} {out out1 : List Int} {most most1 : Int} (H : StAt w0 w g A c l N at_ v out most) (H1 : StAt w0 w1 g A1 c1 l1 N1 at1 v1 out1 most1) (hs : w.heap.size ≤ w1.heap.size) : Below w0.heap.size w w1 :=
  ⟨H1.below.os.trans H.below.os.symm, H1.below.tape.trans H.below.tape.symm, H1.below.output.trans H.below.output.symm, hs, fun k hk => (H1.below.block k hk).trans (H.below.block k hk).symm⟩
theorem st_c2 {w0 w : World} {g c : Nat} {A : Option Addr} {l : List Int} {N at_ : Int} {v : Value} {out : List Int} {most : Int} (H : StAt w0 w g A c l N at_ v out most) : w.cell? ⟨g, 2, none⟩ = some (.int .i64 at_) ∧ w.frozen? ⟨g, 2, none⟩ = false ∧ w.cell? ⟨g, 3, none⟩ = some v ∧ w.frozen? ⟨g, 3, none⟩ = false := ⟨(blk_cell H.blk 2).trans rfl, blk_frozen H.blk 2, (blk_cell H.blk 3).trans rfl, blk_frozen H.blk 3⟩
theorem StAt.appended {w0 w w6 : World} {g c : Nat} {A : Option Addr} {l : List Int} {N at_ : Int} {v v1 : Value} {out ys : List Int} {most : Int} (H : StAt w0 w g A c l N at_ v out most) (ho : (Kd.int .u8).R 5 w6 w0.heap.size (fun _ => True) v1 ys) (hb : Below w0.heap.size w0 w6) (hg : w.grownBy w6 v.ownBlock) (hat : v1.ownBlock = v.ownBlock ∨ ∃ b, v1.ownBlock = some b ∧ w.heap.size ≤ b) :
    StAt w0 (w6.setCell ⟨g, 3, none⟩ v1) g A c l N at_ v1 ys most ∧ Moved w (w6.setCell ⟨g, 3, none⟩ v1) g v v1 := by
  have hbg := blk_grown H.blk hg (Kd.R_ne H.row H.blk (by decide)); refine ⟨⟨hb.setCell (p := ⟨g, 3, none⟩) H.ge _, H.ge, blk_set hbg 3 _, Kd.R_set ho hbg (by decide) 3 _⟩, ⟨by simpa [World.setCell] using hg.size, fun k hk hkg ho => (Below.heap_setCell w6 ⟨g, 3, none⟩ v1 k hkg).trans (hg.block k hk ho), ?_⟩⟩
  rcases hat with e | ⟨b, e, hb⟩
  · exact .inl e
  exact .inr ⟨b, hb, e⟩
end Go.Proofs.YtgflkkjhckcipaaGreatDoor.Pr

-- YtgflkkjhckcipaaGreatDoorPv2
namespace Go.Proofs.YtgflkkjhckcipaaGreatDoor.Pv
open Go.RowKit Go.Proofs.YtgflkkjhckcipaaGreatDoorW.PrintWords Go.Proofs.YtgflkkjhckcipaaGreatDoorW.PrintLast Go.Proofs.YtgflkkjhckcipaaGreatDoorW.PrintMore
attribute [local go_sem] max2_int min2_int max_two min_two max_three min_three max_four min_four   -- for this text's walks alone
set_option linter.unusedVariables false
set_option linter.unusedSimpArgs false

def valiseref04_Check.f (k : Nat) (l0 : List Int) : Option (Int) := (valiseref04_Lengths.f k l0).bind fun t112 => (if t112 = true then ((valiseref04_Takes.f k l0).bind fun t113 => (if t113 > 32768 then (some 11) else (if t113 < 32768 then (some 12) else (some 0)))) else (some 2))
theorem valiseref04_Check.calls (k : Nat) (A0 : Option Addr) (c0 : Nat) (l0 : List Int) (r : Int) (w : World) (hr0 : Kd.C (Kd.int .i64) w A0 l0.length l0) (hc0 : l0.length ≤ c0) (h : valiseref04_Check.f k l0 = some r) :
    Calls Tryz.prog 62 #[.slice A0 l0.length c0] w fun e w' => e = .returned (.int .i64 r) ∧ Drawn0 w w' := by
  have HR0 := Ak hr0; have HC0 := Ak hc0; clear hr0 hc0; have H : ((valiseref04_Lengths.f k l0).bind fun t112 => (if t112 = true then ((valiseref04_Takes.f k l0).bind fun t113 => (if t113 > 32768 then (some 11) else (if t113 < 32768 then (some 12) else (some 0)))) else (some 2))) = some r := h; clear h; replace H := Option.bind_eq_some_iff.mp H; obtain ⟨t112, A20, H⟩ := H; replace H : (if t112 = true then ((valiseref04_Takes.f k l0).bind fun t113 => (if t113 > 32768 then (some 11) else (if t113 < 32768 then (some 12) else (some 0)))) else (some 2)) = some r := H; have A2 := Ak A20; clear A20
  by_cases c3 : t112 = true
  rotate_left
  · replace c3 := Bool.eq_false_iff.mpr c3; subst c3
    have H1 : (some 2) = some r := by rw [if_neg (show ¬ (false = true) by decide)] at H; exact H
    clear H; have H := H1; clear H1; obtain rfl := Option.some.inj H; go_enter Tryz.func62, Tryz.ntmps62
    go_wp2_with (((with_reducible refine gate_callee (f := 81) rfl ?_); refine gl (some 5) Tryz.func81 #[.slice A0 l0.length c0] ?_; (with_reducible refine (valiseref04_Lengths.calls k _ _ l0 false _ ?side1 ?side2 A2.out).mono ?_); (case side1 => repeat (exact HR0.out)); (case side2 => exact HC0.out); rintro e w' ⟨rfl, ⟨nd, rfl⟩⟩; refine ⟨_, rfl, ?_⟩))
    go_ret; exact ⟨by rfl, by repeat (first | exact Drawn0.refl _ | apply Drawn0.step)⟩
  subst c3
  have H1 : ((valiseref04_Takes.f k l0).bind fun t113 => (if t113 > 32768 then (some 11) else (if t113 < 32768 then (some 12) else (some 0)))) = some r := by rw [if_pos rfl] at H; exact H
  clear H; have H := H1; clear H1; replace H := Option.bind_eq_some_iff.mp H; obtain ⟨t113, A40, H⟩ := H; replace H : (if t113 > 32768 then (some 11) else (if t113 < 32768 then (some 12) else (some 0))) = some r := H; have A4 := Ak A40; clear A40
  by_cases c5 : t113 > 32768
  · rw [if_pos c5] at H; have c5b0 : decide (32768 < t113) = true := decide_eq_true c5; clear c5; obtain rfl := Option.some.inj H; go_enter Tryz.func62, Tryz.ntmps62
    go_wp2_with (first | ((with_reducible refine gate_callee (f := 81) rfl ?_); refine gl (some 5) Tryz.func81 #[.slice A0 l0.length c0] ?_; (with_reducible refine (valiseref04_Lengths.calls k _ _ l0 true _ ?side1 ?side2 A2.out).mono ?_); (case side1 => repeat (exact HR0.out)); (case side2 => exact HC0.out); rintro e w' ⟨rfl, ⟨nd, rfl⟩⟩; refine ⟨_, rfl, ?_⟩) | ((with_reducible refine gate_callee (f := 82) rfl ?_); refine gl (some 8) Tryz.func82 #[.slice A0 l0.length c0] ?_; (with_reducible refine (valiseref04_Takes.calls k _ _ l0 t113 _ ?side1 ?side2 A4.out).mono ?_); (case side1 => repeat (exact HR0.out)); (case side2 => exact HC0.out); rintro e w' ⟨rfl, ⟨nd, rfl⟩⟩; refine ⟨_, rfl, ?_⟩))
    go_ret; exact ⟨by rfl, by repeat (first | exact Drawn0.refl _ | apply Drawn0.step)⟩
  rw [if_neg c5] at H; have c5b0 : decide (32768 < t113) = false := decide_eq_false c5; clear c5
  by_cases c6 : t113 < 32768
  · rw [if_pos c6] at H; have c6b0 : decide (t113 < 32768) = true := decide_eq_true c6; clear c6; obtain rfl := Option.some.inj H; go_enter Tryz.func62, Tryz.ntmps62
    go_wp2_with (first | ((with_reducible refine gate_callee (f := 81) rfl ?_); refine gl (some 5) Tryz.func81 #[.slice A0 l0.length c0] ?_; (with_reducible refine (valiseref04_Lengths.calls k _ _ l0 true _ ?side1 ?side2 A2.out).mono ?_); (case side1 => repeat (exact HR0.out)); (case side2 => exact HC0.out); rintro e w' ⟨rfl, ⟨nd, rfl⟩⟩; refine ⟨_, rfl, ?_⟩) | ((with_reducible refine gate_callee (f := 82) rfl ?_); refine gl (some 8) Tryz.func82 #[.slice A0 l0.length c0] ?_; (with_reducible refine (valiseref04_Takes.calls k _ _ l0 t113 _ ?side1 ?side2 A4.out).mono ?_); (case side1 => repeat (exact HR0.out)); (case side2 => exact HC0.out); rintro e w' ⟨rfl, ⟨nd, rfl⟩⟩; refine ⟨_, rfl, ?_⟩))
    go_ret; exact ⟨by rfl, by repeat (first | exact Drawn0.refl _ | apply Drawn0.step)⟩
  rw [if_neg c6] at H; have c6b0 : decide (t113 < 32768) = false := decide_eq_false c6; clear c6; obtain rfl := Option.some.inj H; go_enter Tryz.func62, Tryz.ntmps62
  go_wp2_with (first | ((with_reducible refine gate_callee (f := 81) rfl ?_); refine gl (some 5) Tryz.func81 #[.slice A0 l0.length c0] ?_; (with_reducible refine (valiseref04_Lengths.calls k _ _ l0 true _ ?side1 ?side2 A2.out).mono ?_); (case side1 => repeat (exact HR0.out)); (case side2 => exact HC0.out); rintro e w' ⟨rfl, ⟨nd, rfl⟩⟩; refine ⟨_, rfl, ?_⟩) | ((with_reducible refine gate_callee (f := 82) rfl ?_); refine gl (some 8) Tryz.func82 #[.slice A0 l0.length c0] ?_; (with_reducible refine (valiseref04_Takes.calls k _ _ l0 t113 _ ?side1 ?side2 A4.out).mono ?_); (case side1 => repeat (exact HR0.out)); (case side2 => exact HC0.out); rintro e w' ⟨rfl, ⟨nd, rfl⟩⟩; refine ⟨_, rfl, ?_⟩))
  go_ret; exact ⟨by rfl, by repeat (first | exact Drawn0.refl _ | apply Drawn0.step)⟩

mutual
def valiseref04_Codes.j0 : Nat → List Int → Int → Bool → Option (List Int × Int)
  | 0, _, _, _ => none
  | k + 1, x0, x4, x17 => if x17 = true then (some (([] : List Int), x4)) else (if 0 ≤ (x0.length : Int) then (if ((x0.length : Int) : Int).toNat ≤ 35184372088832 then (valiseref04_Codes.l0 k x0 (List.replicate ((x0.length : Int) : Int).toNat 0) (-1) 0 1) else (none)) else (none))
def valiseref04_Codes.l0 : Nat → List Int → List Int → Int → Int → Int → Option (List Int × Int)
  | 0, _, _, _, _, _ => none
  | k + 1, x0, x5, x6, x7, x8 => if x8 ≤ 15 then (valiseref04_Codes.l1 k x0 x5 x6 x7 x8 0) else (some (x5, 0))
def valiseref04_Codes.l1 : Nat → List Int → List Int → Int → Int → Int → Int → Option (List Int × Int)
  | 0, _, _, _, _, _, _ => none
  | k + 1, x0, x5, x6, x7, x8, x9 => if x9 < (x0.length : Int) then (if 0 ≤ x9 then (if (rd x0 x9) = x8 then (valiseref04_Codes.l2 k x0 x5 (wrap64 (x6 + 1)) x7 x8 x9) else (valiseref04_Codes.l1 k x0 x5 x6 x7 x8 (wrap64 (x9 + 1)))) else (none)) else (valiseref04_Codes.l0 k x0 x5 x6 x7 (wrap64 (x8 + 1)))
def valiseref04_Codes.l2 : Nat → List Int → List Int → Int → Int → Int → Int → Option (List Int × Int)
  | 0, _, _, _, _, _, _ => none
  | k + 1, x0, x5, x6, x7, x8, x9 => if x7 < x8 then (valiseref04_Codes.l2 k x0 x5 (wrap64 (2 * x6)) (wrap64 (x7 + 1)) x8 x9) else (if 0 ≤ x9 then (if x9 < (x5.length : Int) then (valiseref04_Codes.l1 k x0 (x5.set (x9 : Int).toNat x6) x6 x7 x8 (wrap64 (x9 + 1))) else (none)) else (none))
end
def valiseref04_Codes.f (k : Nat) (l0 : List Int) : Option (List Int × Int) := (valiseref04_Check.f k l0).bind fun t114 => (if t114 = 0 then (valiseref04_Codes.j0 k l0 t114 false) else (valiseref04_Codes.j0 k l0 t114 (t114 != 12)))
theorem valiseref04_Codes.calls (k : Nat) (A0 : Option Addr) (c0 : Nat) (l0 : List Int) (r1 : List Int) (r2 : Int) (w : World) (hr0 : Kd.C (Kd.int .i64) w A0 l0.length l0) (hc0 : l0.length ≤ c0) (h : valiseref04_Codes.f k l0 = some (r1, r2)) :
    Calls Tryz.prog 76 #[.slice A0 l0.length c0] w fun e w' => ∃ v0_ : Value, e = .returned (.tuple #[v0_, .int .i64 r2]) ∧ Kd.R (Kd.int .i64) 3 w' w.heap.size (fun _ => True) v0_ r1 ∧ Below w.heap.size w w' := by
  have HR0 := Ak hr0; have HC0 := Ak hc0; clear hr0 hc0; have HB := Ak (Below.refl w.heap.size w); have H : ((valiseref04_Check.f k l0).bind fun t114 => (if t114 = 0 then (valiseref04_Codes.j0 k l0 t114 false) else (valiseref04_Codes.j0 k l0 t114 (t114 != 12)))) = some (r1, r2) := h; clear h; replace H := Option.bind_eq_some_iff.mp H; obtain ⟨t114, A20, H⟩ := H; replace H : (if t114 = 0 then (valiseref04_Codes.j0 k l0 t114 false) else (valiseref04_Codes.j0 k l0 t114 (t114 != 12))) = some (r1, r2) := H; have A2 := Ak A20; clear A20; have HC3 := Ak H; clear H; go_enter Tryz.func76, Tryz.ntmps76
  go_upto_region 2 with (((with_reducible refine gate_callee (f := 62) rfl ?_); refine gl (some 11) Tryz.func62 #[.slice A0 l0.length c0] ?_; (with_reducible refine (valiseref04_Check.calls k _ _ l0 t114 _ ?side1 ?side2 A2.out).mono ?_); (case side1 => repeat (exact HR0.out)); (case side2 => exact HC0.out); rintro e w' ⟨rfl, ⟨nd, rfl⟩⟩; refine ⟨_, rfl, ?_⟩))
  go_cut [17] (fun v17 wc => ∃ (kq : Nat) (x17_2 : Bool), v17 = .bool x17_2 ∧ Aside0 (valiseref04_Codes.j0 kq l0 t114 x17_2 = some (r1, r2)) ∧ Aside0 (kq ≤ k) ∧ Aside0 (Below w.heap.size w wc))
  case first =>
    have H := HC3.out; clear HC3
    by_cases c4 : t114 = 0
    · rw [if_pos c4] at H; have c4b0 : (t114 == 0) = true := beq_iff_eq.mpr c4; have c4b1 : (t114 != 0) = false := bne_eq_false_iff_eq.mpr c4; clear c4
      have H' := Ak H; clear H; go_wp2
      go_meet
      case rel => exact ⟨_, (false), (by rfl), H', ⟨by omega⟩, ⟨by repeat ((with_reducible first | exact HB.out | apply pw_below_drewN))⟩⟩
    rw [if_neg c4] at H; have c4b0 : (t114 == 0) = false := beq_eq_false_iff_ne.mpr c4; have c4b1 : (t114 != 0) = true := bne_iff_ne.mpr c4
    have H' := Ak H; clear H; go_wp2
    go_meet
    case rel => exact ⟨_, ((t114 != 12)), (by rfl), H', ⟨by omega⟩, ⟨by repeat ((with_reducible first | exact HB.out | apply pw_below_drewN))⟩⟩
  case rest =>
    clear HC3
    obtain ⟨kq, x17_2, rfl, HA, HJ2, HB⟩ := hcut
    cases kq with
    | zero => exact absurd HA.out (by simp [valiseref04_Codes.j0])
    | succ kj2 => ?_
    have H := HA.out; clear HA; simp only [valiseref04_Codes.j0] at H
    by_cases c5 : x17_2 = true
    · subst c5
      have H1 : (some (([] : List Int), t114)) = some (r1, r2) := by rw [if_pos rfl] at H; exact H
      clear H; have H := H1; clear H1; simp only [Option.some.injEq, Prod.mk.injEq] at H; obtain ⟨rfl, rfl⟩ := H; go_wp2; go_ret2; exact ⟨_, by rfl, by exact Kd.R_nil _ _ _ _ _, by repeat ((with_reducible exact HB.out))⟩
    replace c5 := Bool.eq_false_iff.mpr c5; subst c5
    have H1 : (if 0 ≤ (l0.length : Int) then (if ((l0.length : Int) : Int).toNat ≤ 35184372088832 then (valiseref04_Codes.l0 kj2 l0 (List.replicate ((l0.length : Int) : Int).toNat 0) (-1) 0 1) else (none)) else (none)) = some (r1, r2) := by rw [if_neg (show ¬ (false = true) by decide)] at H; exact H
    clear H; have H := H1; clear H1
    by_cases c6 : 0 ≤ (l0.length : Int)
    rotate_left
    · rw [if_neg c6] at H; exact absurd H (by simp)
    rw [if_pos c6] at H; have c6b0 := eq_true c6; have c6b1 : decide (0 ≤ (l0.length : Int)) = true := decide_eq_true c6; clear c6
    by_cases c7 : ((l0.length : Int) : Int).toNat ≤ 35184372088832
    rotate_left
    · rw [if_neg c7] at H; exact absurd H (by simp)
    rw [if_pos c7] at H; have c7b0 := eq_true c7; have c7b1 : decide (((l0.length : Int) : Int).toNat ≤ 35184372088832) = true := decide_eq_true c7; clear c7; obtain ⟨y115, hy115⟩ : ∃ y_ : List Int, y_ = (List.replicate ((l0.length : Int) : Int).toNat 0) := ⟨_, rfl⟩
    replace H : (valiseref04_Codes.l0 kj2 l0 y115 (-1) 0 1) = some (r1, r2) := by (rw [hy115]; with_reducible exact H)
    have Ny115 := Ak hy115; clear hy115; have H' := Ak H; clear H
    go_wp2_with (((with_reducible refine gate_dst (N := 21) rfl ?_); refine Kd.R_make (Kd.int .i64) _ 3 rfl (N := 21) rfl 68 _ _ rfl (l0.length : Int) rfl rfl Tryz.underlying68 (.int .i64 0) 8 info3 rfl (by decide) (by omega) 0 (ok := fun _ => True) (okp := fun _ => True) rfl (fun _ hk => hk) trivial (of_decide_eq_true (by (with_reducible assumption))) (Nat.le_trans (Nat.mul_le_mul_right _ (of_decide_eq_true (by (with_reducible assumption)) : (l0.length : Int).toNat ≤ 35184372088832)) (by omega)) (Below.refl _ _) (Nat.le_refl _) ?_; intro v116 w8 ho9 hb hg_ hnew_; clear hg_ hnew_; (rw [← Ny115.out] at ho9); replace HO117 := Ak (Kd.R_lower ho9 (below_size bl_)); replace HB := Ak (below_step bl_ hb); clear hb ho9))
    go_loopg [6, 7, 8] kj2 (fun kq v6 v7 v8 w' => ∃ (x5_2 : List Int) (x6_2 : Int) (x7_2 : Int) (x8_2 : Int), v6 = .int .i64 x6_2 ∧ v7 = .int .i64 x7_2 ∧ v8 = .int .i64 x8_2 ∧ Aside0 (valiseref04_Codes.l0 kq l0 x5_2 x6_2 x7_2 x8_2 = some (r1, r2)) ∧ Aside0 (kq ≤ kj2) ∧ Aside0 (Kd.R (Kd.int .i64) 3 w' w.heap.size (fun _ => True) v116 x5_2) ∧ Aside0 (Below w.heap.size w w'))
    case atStart => exact ⟨(y115), ((-1)), (0), (1), (by rfl), (by rfl), (by rfl), H', ⟨Nat.le_refl _⟩, ⟨by (with_reducible repeat (fail)); exact HO117.out⟩, ⟨by repeat ((with_reducible exact HB.out))⟩⟩
    case round =>
      clear H'
      clear c6b0 c6b1 c7b0 c7b1
      obtain ⟨x5_2, x6_2, x7_2, x8_2, rfl, rfl, rfl, HA, HK2, HO_5, HB⟩ := hrel
      cases gk with
      | zero => exact absurd HA.out (by simp [valiseref04_Codes.l0])
      | succ k2 => ?_
      have H := HA.out; clear HA; simp only [valiseref04_Codes.l0] at H
      by_cases c10 : x8_2 ≤ 15
      rotate_left
      · rw [if_neg c10] at H; have c10b0 : decide (x8_2 ≤ 15) = false := decide_eq_false c10; clear c10; simp only [Option.some.injEq, Prod.mk.injEq] at H; obtain ⟨rfl, rfl⟩ := H; go_wp2; go_ret2; exact ⟨_, by rfl, by (with_reducible repeat (fail)); exact HO_5.out, by repeat ((with_reducible exact HB.out))⟩
      rw [if_pos c10] at H; have c10b0 : decide (x8_2 ≤ 15) = true := decide_eq_true c10; clear c10; have H' := Ak H; clear H; go_wp2
      go_loopg [6, 7, 9] k2 (fun kq v6 v7 v9 w' => ∃ (x5_3 : List Int) (x6_3 : Int) (x7_3 : Int) (x9_3 : Int), v6 = .int .i64 x6_3 ∧ v7 = .int .i64 x7_3 ∧ v9 = .int .i64 x9_3 ∧ Aside0 (valiseref04_Codes.l1 kq l0 x5_3 x6_3 x7_3 x8_2 x9_3 = some (r1, r2)) ∧ Aside0 (kq ≤ k2) ∧ Aside0 (Kd.R (Kd.int .i64) 3 w' w.heap.size (fun _ => True) v116 x5_3) ∧ Aside0 (Below w.heap.size w w'))
      case atStart => exact ⟨(x5_2), (x6_2), (x7_2), (0), (by rfl), (by rfl), (by rfl), H', ⟨Nat.le_refl _⟩, ⟨by (with_reducible repeat (fail)); exact HO_5.out⟩, ⟨by repeat ((with_reducible exact HB.out))⟩⟩
      case round =>
        clear H'
        clear c10b0
        obtain ⟨x5_3, x6_3, x7_3, x9_3, rfl, rfl, rfl, HA, HK3, HO_5, HB⟩ := hrel
        cases gk with
        | zero => exact absurd HA.out (by simp [valiseref04_Codes.l1])
        | succ k3 => ?_
        have H := HA.out; clear HA; simp only [valiseref04_Codes.l1] at H
        by_cases c11 : x9_3 < (l0.length : Int)
        rotate_left
        · rw [if_neg c11] at H; have c11b0 : decide (x9_3 < (l0.length : Int)) = false := decide_eq_false c11; clear c11; have H' := Ak H; clear H; go_wp2
          go_roundg k3
          case measure => have := HJ2.out; have := HK2.out; have := HK3.out; omega
          case rel => exact ⟨(x5_3), (x6_3), (x7_3), (wrap64 (x8_2 + 1)), (by rfl), (by rfl), (by rfl), H', ⟨by have := HJ2.out; have := HK2.out; have := HK3.out; omega⟩, ⟨by (with_reducible repeat (fail)); exact HO_5.out⟩, ⟨by repeat ((with_reducible exact HB.out))⟩⟩
        rw [if_pos c11] at H; have c11b0 : decide (x9_3 < (l0.length : Int)) = true := decide_eq_true c11; clear c11
        by_cases c12 : 0 ≤ x9_3
        rotate_left
        · rw [if_neg c12] at H; exact absurd H (by simp)
        rw [if_pos c12] at H; have c12b0 : decide (0 ≤ x9_3) = true := decide_eq_true c12; clear c12
        by_cases c13 : (rd l0 x9_3) = x8_2
        rotate_left
        · rw [if_neg c13] at H; have c13b0 : ((rd l0 x9_3) == x8_2) = false := beq_eq_false_iff_ne.mpr c13; have c13b1 : ((rd l0 x9_3) != x8_2) = true := bne_iff_ne.mpr c13; have H' := Ak H; clear H; have p118 : 0 ≤ (x9_3 : Int) := of_decide_eq_true (by (with_reducible assumption)); have q118 : x9_3 < (l0.length : Int) := of_decide_eq_true (by (with_reducible assumption)); obtain ⟨ad118, e118, hx118_0⟩ := Kd.at_int HR0.out x9_3 p118 q118; cases e118; replace hx118_0 := (HB.out.cell (World.block_lt_of_cell? w _ hx118_0)).trans hx118_0; replace p118 := eq_true p118; replace q118 := eq_true q118; go_wp2
          go_roundg k3
          case measure => have := HJ2.out; have := HK2.out; have := HK3.out; omega
          case rel => exact ⟨(x5_3), (x6_3), (x7_3), (wrap64 (x9_3 + 1)), (by rfl), (by rfl), (by rfl), H', ⟨by have := HJ2.out; have := HK2.out; have := HK3.out; omega⟩, ⟨by (with_reducible repeat (fail)); exact HO_5.out⟩, ⟨by repeat ((with_reducible exact HB.out))⟩⟩
        rw [if_pos c13] at H; have c13b0 : ((rd l0 x9_3) == x8_2) = true := beq_iff_eq.mpr c13; have c13b1 : ((rd l0 x9_3) != x8_2) = false := bne_eq_false_iff_eq.mpr c13; clear c13; have H' := Ak H; clear H; have p118 : 0 ≤ (x9_3 : Int) := of_decide_eq_true (by (with_reducible assumption)); have q118 : x9_3 < (l0.length : Int) := of_decide_eq_true (by (with_reducible assumption)); obtain ⟨ad118, e118, hx118_0⟩ := Kd.at_int HR0.out x9_3 p118 q118; cases e118; replace hx118_0 := (HB.out.cell (World.block_lt_of_cell? w _ hx118_0)).trans hx118_0; replace p118 := eq_true p118; replace q118 := eq_true q118; go_wp2
        go_loopg [6, 7] k3 (fun kq v6 v7 w' => ∃ (x6_4 : Int) (x7_4 : Int), v6 = .int .i64 x6_4 ∧ v7 = .int .i64 x7_4 ∧ Aside0 (valiseref04_Codes.l2 kq l0 x5_3 x6_4 x7_4 x8_2 x9_3 = some (r1, r2)) ∧ Aside0 (kq ≤ k3) ∧ Aside0 (Kd.R (Kd.int .i64) 3 w' w.heap.size (fun _ => True) v116 x5_3) ∧ Aside0 (Below w.heap.size w w'))
        case atStart => exact ⟨(wrap64 (x6_3 + 1)), (x7_3), (by rfl), (by rfl), H', ⟨Nat.le_refl _⟩, ⟨by (with_reducible repeat (fail)); exact HO_5.out⟩, ⟨by repeat ((with_reducible exact HB.out))⟩⟩
        case round =>
          clear H'
          clear c11b0 c12b0 c13b0 c13b1 hx118_0 p118 q118
          obtain ⟨x6_4, x7_4, rfl, rfl, HA, HK4, HO_5, HB⟩ := hrel
          cases gk with
          | zero => exact absurd HA.out (by simp [valiseref04_Codes.l2])
          | succ k4 => ?_
          have H := HA.out; clear HA; simp only [valiseref04_Codes.l2] at H
          by_cases c14 : x7_4 < x8_2
          · rw [if_pos c14] at H; have c14b0 : decide (x7_4 < x8_2) = true := decide_eq_true c14; clear c14; have H' := Ak H; clear H; go_wp2
            go_roundg k4
            case measure => have := HJ2.out; have := HK2.out; have := HK3.out; have := HK4.out; omega
            case rel => exact ⟨(wrap64 (2 * x6_4)), (wrap64 (x7_4 + 1)), (by rfl), (by rfl), H', ⟨by have := HJ2.out; have := HK2.out; have := HK3.out; have := HK4.out; omega⟩, ⟨by (with_reducible repeat (fail)); exact HO_5.out⟩, ⟨by repeat ((with_reducible exact HB.out))⟩⟩
          rw [if_neg c14] at H; have c14b0 : decide (x7_4 < x8_2) = false := decide_eq_false c14; clear c14
          by_cases c15 : 0 ≤ x9_3
          rotate_left
          · rw [if_neg c15] at H; exact absurd H (by simp)
          rw [if_pos c15] at H; have c15b0 : decide (0 ≤ x9_3) = true := decide_eq_true c15; clear c15
          by_cases c16 : x9_3 < (x5_3.length : Int)
          · rw [if_pos c16] at H; have c16b0 : decide (x9_3 < (x5_3.length : Int)) = true := decide_eq_true c16; clear c16; obtain ⟨y119, hy119⟩ : ∃ y_ : List Int, y_ = (x5_3.set (x9_3 : Int).toNat x6_4) := ⟨_, rfl⟩
            replace H : (valiseref04_Codes.l1 k4 l0 y119 x6_4 x7_4 x8_2 (wrap64 (x9_3 + 1))) = some (r1, r2) := by (rw [hy119]; with_reducible exact H)
            have Ny119 := Ak hy119; clear hy119; have H' := Ak H; clear H; have p17 : 0 ≤ (x9_3 : Int) := of_decide_eq_true (by (with_reducible assumption)); have q17 : (x9_3 : Int) < ((x5_3.length : Int) : Int) := of_decide_eq_true (by (with_reducible assumption)); obtain ⟨go17, co17, eo17, gb17, gl17, cl17, HG17⟩ := Kd.R_form HO_5.out (by omega)
            (cases eo17)
            have GB17 := Ak gb17; have GG17 := Ak HG17; clear gb17 gl17 HG17; obtain ⟨hx17_0, hf17_0⟩ := Kd.R_celln 0 HO_5.out (x9_3 : Int) p17 q17; replace p17 := eq_true p17; replace q17 := eq_true q17; have HP18 := Kd.R_putg HO_5.out (x9_3 : Int) x6_4
            go_wp2_with (((with_reducible refine gate_store (t := 3) (p := 50) rfl ?_); refine store_event (t := 3) (p := 50) (v := ?vo_w19) (w1 := (wr.setCell ⟨go17, (x9_3 : Int).toNat, none⟩ (.int .i64 x6_4))) ?hg ?ho ?hn ?hr ?_; (case ho => rfl); (case hg => rfl); (case hn => rfl); (case hr => (go_simp; done)); intro w19 hw; have hg : wr.grownBy w19 (some go17) := (by rw [hw]; exact HP18.2); have hp_ : Kd.R (Kd.int .i64) 3 w19 w.heap.size (fun _ => True) (.slice (some ⟨go17, 0, none⟩) x5_3.length co17) y119 := (by rw [hw, Ny119.out]; exact HP18.1); clear HP18; replace HO_5 := Ak (hp_); replace HB := Ak ((by rw [hw]; exact below_set (HB.out) GB17.out : Below w.heap.size w w19)); clear hg hw hp_))
            go_roundg k4
            case measure => have := HJ2.out; have := HK2.out; have := HK3.out; have := HK4.out; omega
            case rel => exact ⟨(y119), (x6_4), (x7_4), (wrap64 (x9_3 + 1)), (by rfl), (by rfl), (by rfl), H', ⟨by have := HJ2.out; have := HK2.out; have := HK3.out; have := HK4.out; omega⟩, ⟨by (with_reducible repeat (fail)); exact HO_5.out⟩, ⟨by repeat ((with_reducible exact HB.out))⟩⟩
          rw [if_neg c16] at H; exact absurd H (by simp)

def valiseref04_begins.f (a0 : Int) (a1 : Int) (a2 : Int) (a3 : Int) : Option (Bool) := if a1 ≥ a3 then (if 0 ≤ (wrap64 (a1 - a3)) then (some ((shr .i64 a0 (wrap64 (a1 - a3))) == a2)) else (none)) else (some false)
theorem valiseref04_begins.calls (a0 : Int) (a1 : Int) (a2 : Int) (a3 : Int) (r : Bool) (w : World) (h : valiseref04_begins.f a0 a1 a2 a3 = some r) :
    Calls Tryz.prog 77 #[.int .i64 a0, .int .i64 a1, .int .i64 a2, .int .i64 a3] w fun e w' => e = .returned (.bool r) ∧ Drawn0 w w' := by
  have H : (if a1 ≥ a3 then (if 0 ≤ (wrap64 (a1 - a3)) then (some ((shr .i64 a0 (wrap64 (a1 - a3))) == a2)) else (none)) else (some false)) = some r := h; clear h
  by_cases c5 : a1 ≥ a3
  rotate_left
  · rw [if_neg c5] at H; have c5b0 : decide (a3 ≤ a1) = false := decide_eq_false c5; clear c5; obtain rfl := Option.some.inj H; go_enter Tryz.func77, Tryz.ntmps77; go_wp2; go_ret; exact ⟨by rfl, by repeat (exact Drawn0.refl _)⟩
  rw [if_pos c5] at H; have c5b0 : decide (a3 ≤ a1) = true := decide_eq_true c5; clear c5; obtain ⟨ji6, hji6⟩ : ∃ j_ : Int, (wrap64 (a1 - a3)) = j_ := ⟨_, rfl⟩
  replace H : (if 0 ≤ (ji6) then (some ((shr .i64 a0 (ji6)) == a2)) else (none)) = some r := by (rw [hji6] at H; exact H)
  have hji6w : (IntKind.i64.wrap (a1 - a3)) = ji6 := (i64_w _).trans hji6
  by_cases c7 : 0 ≤ (ji6)
  rotate_left
  · rw [if_neg c7] at H; exact absurd H (by simp)
  rw [if_pos c7] at H; have c7b0 := eq_true c7; have c7b1 : decide (0 ≤ (ji6)) = true := decide_eq_true c7; clear c7; obtain ⟨ji8, hji8⟩ : ∃ j_ : Int, (shr .i64 a0 (ji6)) = j_ := ⟨_, rfl⟩
  replace H : (some ((ji8) == a2)) = some r := by (rw [hji8] at H; exact H)
  have hji8_ : (a0 / 2 ^ min (ji6).toNat 64) = ji8 := hji8; have hji8z : (ji6) ≤ 64 → (a0 / 2 ^ (ji6).toNat) = ji8 := shr_small hji8; obtain rfl := Option.some.inj H; go_enter Tryz.func77, Tryz.ntmps77; go_wp2; go_ret; exact ⟨by rfl, by repeat (exact Drawn0.refl _)⟩

end Go.Proofs.YtgflkkjhckcipaaGreatDoor.Pv

