-- Texts by hand and by programs of this session, joined (wip/tool/merge.py).
import Derived.Test.YthcndpdfcippiaaMHuffBW4
import Derived.Test.YthcndpdfcippiaaMHuffBW6
-- YthcndpdfcippiaaPr15
namespace Go.Proofs.Ythcndpdfcippiaa.Pr
open Go.RowKit Go.Proofs.YthcndpdfcippiaaW.PrintWords Go.Proofs.YthcndpdfcippiaaW.PrintLast Go.Proofs.YthcndpdfcippiaaW.PrintMore
attribute [local go_sem] max2_int min2_int max_two min_two max_three min_three max_four min_four   -- for this text's walks alone
set_option linter.unusedVariables false
set_option linter.unusedSimpArgs false

/-! ### bits_Get: function 38 -/
mutual
def bits_Get.j0 : Nat → Int → Int → Bool → List Int → Int → Option (Int × Int)
  | 0, _, _, _, _, _ => none
  | k + 1, x1, x2, x30, x129000, x129001 => if x30 = true then (some (0, 2)) else (if (wrap64 (x129001 - x1)) < x2 then (some (0, 4)) else (bits_Get.l0 k x1 0 x2 0 x129000 x129001))
def bits_Get.l0 : Nat → Int → Int → Int → Int → List Int → Int → Option (Int × Int)
  | 0, _, _, _, _, _, _ => none
  | k + 1, x1, x8, x37, x38, x129000, x129001 => if x38 < x37 then ((bits_bit.f x129000 x129001 (wrap64 (x1 + x38))).bind fun t130 => (if 0 ≤ x38 then (bits_Get.l0 k x1 (Go.bits .or .i64 x8 (shl .i64 t130 x38)) x37 (wrap64 (x38 + 1)) x129000 x129001) else (none))) else (some (x8, 0))
end
def bits_Get.f (k : Nat) (l0_0 : List Int) (a0_1 : Int) (a1 : Int) (a2 : Int) : Option (Int × Int) := (bits_Check.f k l0_0 a0_1).bind fun t129 => (if t129 = 0 then (if a2 < 0 then (bits_Get.j0 k a1 a2 true l0_0 a0_1) else (if a2 > 32 then (bits_Get.j0 k a1 a2 true l0_0 a0_1) else (if a1 < 0 then (bits_Get.j0 k a1 a2 true l0_0 a0_1) else (bits_Get.j0 k a1 a2 (decide (a1 > a0_1)) l0_0 a0_1)))) else (bits_Get.j0 k a1 a2 true l0_0 a0_1))
theorem bits_Get.mono_l : ∀ k, (∀ y0 y1 y2 y3 y4, LeO (bits_Get.j0 k y0 y1 y2 y3 y4) (bits_Get.j0 (k + 1) y0 y1 y2 y3 y4)) ∧ (∀ y0 y1 y2 y3 y4 y5, LeO (bits_Get.l0 k y0 y1 y2 y3 y4 y5) (bits_Get.l0 (k + 1) y0 y1 y2 y3 y4 y5))
  | 0 => ⟨fun _ _ _ _ _ r h => by simp [bits_Get.j0] at h, fun _ _ _ _ _ _ r h => by simp [bits_Get.l0] at h⟩
  | k + 1 => by
    obtain ⟨ih0, ih1⟩ := bits_Get.mono_l k
    refine ⟨?_, ?_⟩
    · intro y0 y1 y2 y3 y4
      unfold bits_Get.j0
      repeat' first
      | (with_reducible exact ih0 _ _ _ _ _)
      | (with_reducible exact ih1 _ _ _ _ _ _)
      | (with_reducible exact bits_Check.mono _ _ _)
      | (with_reducible exact LeO.refl _)
      | (with_reducible exact LeO.none _)
      | (with_reducible refine LeO.ite ?_ ?_)
      | (with_reducible refine LeO.bind ?_ (fun _ => ?_))
      | exact ih0 _ _ _ _ _
      | exact ih1 _ _ _ _ _ _
      | exact bits_Check.mono _ _ _
      | exact LeO.none _
      | refine LeO.ite ?_ ?_
      | refine LeO.bind ?_ (fun _ => ?_)
    · intro y0 y1 y2 y3 y4 y5
      unfold bits_Get.l0
      repeat' first
      | (with_reducible exact ih0 _ _ _ _ _)
      | (with_reducible exact ih1 _ _ _ _ _ _)
      | (with_reducible exact bits_Check.mono _ _ _)
      | (with_reducible exact LeO.refl _)
      | (with_reducible exact LeO.none _)
      | (with_reducible refine LeO.ite ?_ ?_)
      | (with_reducible refine LeO.bind ?_ (fun _ => ?_))
      | exact ih0 _ _ _ _ _
      | exact ih1 _ _ _ _ _ _
      | exact bits_Check.mono _ _ _
      | exact LeO.none _
      | refine LeO.ite ?_ ?_
      | refine LeO.bind ?_ (fun _ => ?_)
theorem bits_Get.mono : ∀ a0 a1 a2 a3 k, LeO (bits_Get.f k a0 a1 a2 a3) (bits_Get.f (k + 1) a0 a1 a2 a3) := by
  intro a0 a1 a2 a3 k
  obtain ⟨ih0, ih1⟩ := bits_Get.mono_l k
  unfold bits_Get.f
  repeat' first
      | (with_reducible exact ih0 _ _ _ _ _)
      | (with_reducible exact ih1 _ _ _ _ _ _)
      | (with_reducible exact bits_Check.mono _ _ _)
      | (with_reducible exact LeO.refl _)
      | (with_reducible exact LeO.none _)
      | (with_reducible refine LeO.ite ?_ ?_)
      | (with_reducible refine LeO.bind ?_ (fun _ => ?_))
      | exact ih0 _ _ _ _ _
      | exact ih1 _ _ _ _ _ _
      | exact bits_Check.mono _ _ _
      | exact LeO.none _
      | refine LeO.ite ?_ ?_
      | refine LeO.bind ?_ (fun _ => ?_)
set_option maxHeartbeats 8000000 in
set_option maxRecDepth 100000 in
theorem bits_Get.calls (k : Nat) (A0_0 : Option Addr) (c0_0 : Nat) (l0_0 : List Int) (a0_1 : Int) (a1 : Int) (a2 : Int) (r1 : Int) (r2 : Int) (w : World) (hr0_0 : Kd.C (Kd.int .u8) w A0_0 l0_0.length l0_0) (hc0_0 : l0_0.length ≤ c0_0) (h : bits_Get.f k l0_0 a0_1 a1 a2 = some (r1, r2)) :
    Calls Try.prog 38 #[.agg #[.slice A0_0 l0_0.length c0_0, .int .i64 a0_1], .int .i64 a1, .int .i64 a2] w fun e w' => e = .returned (.tuple #[.int .i64 r1, .int .i64 r2]) ∧ Below w.heap.size w w' := by
  have hu36 := Try.underlying36
  have HR0_0 := Aside0.mk hr0_0
  have HC0_0 := Aside0.mk hc0_0
  clear hr0_0 hc0_0
  have HB := Aside0.mk (Below.refl w.heap.size w)
  have H : ((bits_Check.f k l0_0 a0_1).bind fun t129 => (if t129 = 0 then (if a2 < 0 then (bits_Get.j0 k a1 a2 true l0_0 a0_1) else (if a2 > 32 then (bits_Get.j0 k a1 a2 true l0_0 a0_1) else (if a1 < 0 then (bits_Get.j0 k a1 a2 true l0_0 a0_1) else (bits_Get.j0 k a1 a2 (decide (a1 > a0_1)) l0_0 a0_1)))) else (bits_Get.j0 k a1 a2 true l0_0 a0_1))) = some (r1, r2) := h
  clear h
  have HC4 := Aside0.mk H
  clear H
  go_enter Try.func38, Try.ntmps38
  go_upto_region 1 with (first | ((with_reducible refine gate_dst (N := 3) rfl ?_); refine box_event ?hg (N := 3) ?hd (cs := #[.slice A0_0 l0_0.length c0_0, .int .i64 a0_1]) (t := 36) ?hr ?_; (case hd => rfl); (case hg => rfl); (case hr => first | (go_simp; done) | (go_simp; rfl)); intro gb128 hg w5 hbox hb; have n0_ := Aside0.mk (below_step (by repeat (first | (with_reducible first | exact HB.out | apply below_alloc | apply pw_below_drewN | apply below_drew1) | exact HB.out)) hb); have n1_ := Aside0.mk (hbox); have n2_ := Aside0.mk ((by rw [hg]; exact (below_size (by repeat (first | (with_reducible first | exact HB.out | apply below_alloc | apply pw_below_drewN | apply below_drew1) | exact HB.out))) : w.heap.size ≤ gb128)); have n3_ := Aside0.mk ((by rw [hg]; exact (below_size (by repeat (first | (with_reducible first | exact HB.out | apply below_alloc | apply pw_below_drewN | apply below_drew1) | exact HB.out))) : w.heap.size ≤ gb128)); clear HB; have HB := n0_; have BK128 := n1_; have GW128 := n2_; have GE128 := n3_; clear n0_ n1_ n2_ n3_; clear hb hbox hg))
  (try simp only [Act.put, List.setIfInBounds_toArray, List.set_cons_zero, List.set_cons_succ])
  go_cut [30] (fun v30 wc => ∃ (kq : Nat) (x30_3 : Bool), v30 = .bool x30_3 ∧ Aside0 (bits_Get.j0 kq a1 a2 x30_3 l0_0 a0_1 = some (r1, r2)) ∧ Aside0 (kq ≤ k) ∧ Aside0 (wc.heap[gb128]? = some (.cells #[(.slice A0_0 l0_0.length c0_0), .int .i64 a0_1] 36 (0, 0))) ∧ Aside0 (Below w.heap.size w wc))
  case first =>
    have H := HC4.out
    clear HC4
    replace H := Option.bind_eq_some_iff.mp H
    obtain ⟨t129, A60, H⟩ := H
    replace H : (if t129 = 0 then (if a2 < 0 then (bits_Get.j0 k a1 a2 true l0_0 a0_1) else (if a2 > 32 then (bits_Get.j0 k a1 a2 true l0_0 a0_1) else (if a1 < 0 then (bits_Get.j0 k a1 a2 true l0_0 a0_1) else (bits_Get.j0 k a1 a2 (decide (a1 > a0_1)) l0_0 a0_1)))) else (bits_Get.j0 k a1 a2 true l0_0 a0_1)) = some (r1, r2) := H
    have A6 := Aside0.mk A60
    clear A60
    by_cases c7 : t129 = 0
    · rw [if_pos c7] at H
      have c7b0 : (t129 == 0) = true := beq_iff_eq.mpr c7
      have c7b1 : (t129 != 0) = false := bne_eq_false_iff_eq.mpr c7
      clear c7
      (first | rw [c7b0] | (simp only [i64_w, i32_w, u8_w]; rw [c7b0]) | skip)
      by_cases c8 : a2 < 0
      · rw [if_pos c8] at H
        have c8b0 : decide (a2 < 0) = true := decide_eq_true c8
        clear c8
        have H' := Aside0.mk H
        clear H
        have hcz9_0 : w5.cell? ⟨gb128, 0, none⟩ = some (.slice A0_0 l0_0.length c0_0) := (blk_cell BK128.out 0).trans rfl
        have hcz9_1 : w5.cell? ⟨gb128, 1, none⟩ = some (.int .i64 a0_1) := (blk_cell BK128.out 1).trans rfl
        have hfz9_0 := blk_frozen BK128.out 0
        have hfz9_1 := blk_frozen BK128.out 1
        go_wp2_with (first | ((with_reducible refine gate_callee (f := 30) rfl ?_); refine goesL_ (some 11) rfl rfl Try.func30 (by kernel_rfl) rfl #[.agg #[.slice A0_0 l0_0.length c0_0, .int .i64 a0_1]] rfl (by (try simp only [List.map_toArray, List.map_cons, List.map_nil]); first | done | rfl | (simp only [List.length_drop, List.length_take]; rfl)) ?_; (with_reducible refine (bits_Check.calls k _ _ l0_0 a0_1 t129 _ ?side1 ?side2 A6.out).mono ?_); (case side1 => repeat (first | exact (Kd.C_below HR0_0.out HB.out) | (with_reducible refine Kd.C_alloc ?_ _) | (with_reducible refine Kd.C_drewN ?_ _) | (with_reducible refine Kd.C_drew ?_))); (case side2 => exact HC0_0.out); rintro e w10 ⟨rfl, hb⟩; refine ⟨_, rfl, ?_⟩; have n0_ := Aside0.mk (blk_below (g := gb128) (o := .cells #[.slice A0_0 l0_0.length c0_0, .int .i64 a0_1] 36 (0, 0)) (by (with_reducible repeat (first | refine blk_drewN ?_ _ | refine blk_drew ?_ | refine blk_alloc ?_ _)); exact BK128.out) hb); have n1_ := Aside0.mk (below_step (by repeat (first | (with_reducible first | exact HB.out | apply below_alloc | apply pw_below_drewN | apply below_drew1 | refine below_set ?_ GE128.out) | exact HB.out)) hb); clear BK128; clear HB; have BK128 := n0_; have HB := n1_; clear n0_ n1_; (try clear hb); (try clear hb2); (try clear hk); (try clear hi)))
        go_meet
        case rel => exact ⟨_, (true), (by first | rfl | (simp; done) | (simp [*]; done)), H', ⟨by first | omega | exact Nat.le_refl _⟩, ⟨by (with_reducible repeat (first | refine blk_drewN ?_ _ | refine blk_drew ?_ | refine blk_alloc ?_ _)); exact BK128.out⟩, ⟨by repeat (first | (with_reducible first | exact HB.out | apply below_alloc | apply pw_below_drewN | apply below_drew1 | refine below_set ?_ GE128.out) | exact HB.out)⟩⟩
      · rw [if_neg c8] at H
        have c8b0 : decide (a2 < 0) = false := decide_eq_false c8
        clear c8
        by_cases c11 : a2 > 32
        · rw [if_pos c11] at H
          have c11b0 : decide (32 < a2) = true := decide_eq_true c11
          clear c11
          have H' := Aside0.mk H
          clear H
          have hcz12_0 : w5.cell? ⟨gb128, 0, none⟩ = some (.slice A0_0 l0_0.length c0_0) := (blk_cell BK128.out 0).trans rfl
          have hcz12_1 : w5.cell? ⟨gb128, 1, none⟩ = some (.int .i64 a0_1) := (blk_cell BK128.out 1).trans rfl
          have hfz12_0 := blk_frozen BK128.out 0
          have hfz12_1 := blk_frozen BK128.out 1
          go_wp2_with (first | ((with_reducible refine gate_callee (f := 30) rfl ?_); refine goesL_ (some 11) rfl rfl Try.func30 (by kernel_rfl) rfl #[.agg #[.slice A0_0 l0_0.length c0_0, .int .i64 a0_1]] rfl (by (try simp only [List.map_toArray, List.map_cons, List.map_nil]); first | done | rfl | (simp only [List.length_drop, List.length_take]; rfl)) ?_; (with_reducible refine (bits_Check.calls k _ _ l0_0 a0_1 t129 _ ?side1 ?side2 A6.out).mono ?_); (case side1 => repeat (first | exact (Kd.C_below HR0_0.out HB.out) | (with_reducible refine Kd.C_alloc ?_ _) | (with_reducible refine Kd.C_drewN ?_ _) | (with_reducible refine Kd.C_drew ?_))); (case side2 => exact HC0_0.out); rintro e w13 ⟨rfl, hb⟩; refine ⟨_, rfl, ?_⟩; have n0_ := Aside0.mk (blk_below (g := gb128) (o := .cells #[.slice A0_0 l0_0.length c0_0, .int .i64 a0_1] 36 (0, 0)) (by (with_reducible repeat (first | refine blk_drewN ?_ _ | refine blk_drew ?_ | refine blk_alloc ?_ _)); exact BK128.out) hb); have n1_ := Aside0.mk (below_step (by repeat (first | (with_reducible first | exact HB.out | apply below_alloc | apply pw_below_drewN | apply below_drew1 | refine below_set ?_ GE128.out) | exact HB.out)) hb); clear BK128; clear HB; have BK128 := n0_; have HB := n1_; clear n0_ n1_; (try clear hb); (try clear hb2); (try clear hk); (try clear hi)))
          go_meet
          case rel => exact ⟨_, (true), (by first | rfl | (simp; done) | (simp [*]; done)), H', ⟨by first | omega | exact Nat.le_refl _⟩, ⟨by (with_reducible repeat (first | refine blk_drewN ?_ _ | refine blk_drew ?_ | refine blk_alloc ?_ _)); exact BK128.out⟩, ⟨by repeat (first | (with_reducible first | exact HB.out | apply below_alloc | apply pw_below_drewN | apply below_drew1 | refine below_set ?_ GE128.out) | exact HB.out)⟩⟩
        · rw [if_neg c11] at H
          have c11b0 : decide (32 < a2) = false := decide_eq_false c11
          clear c11
          by_cases c14 : a1 < 0
          · rw [if_pos c14] at H
            have c14b0 : decide (a1 < 0) = true := decide_eq_true c14
            clear c14
            have H' := Aside0.mk H
            clear H
            have hcz15_0 : w5.cell? ⟨gb128, 0, none⟩ = some (.slice A0_0 l0_0.length c0_0) := (blk_cell BK128.out 0).trans rfl
            have hcz15_1 : w5.cell? ⟨gb128, 1, none⟩ = some (.int .i64 a0_1) := (blk_cell BK128.out 1).trans rfl
            have hfz15_0 := blk_frozen BK128.out 0
            have hfz15_1 := blk_frozen BK128.out 1
            go_wp2_with (first | ((with_reducible refine gate_callee (f := 30) rfl ?_); refine goesL_ (some 11) rfl rfl Try.func30 (by kernel_rfl) rfl #[.agg #[.slice A0_0 l0_0.length c0_0, .int .i64 a0_1]] rfl (by (try simp only [List.map_toArray, List.map_cons, List.map_nil]); first | done | rfl | (simp only [List.length_drop, List.length_take]; rfl)) ?_; (with_reducible refine (bits_Check.calls k _ _ l0_0 a0_1 t129 _ ?side1 ?side2 A6.out).mono ?_); (case side1 => repeat (first | exact (Kd.C_below HR0_0.out HB.out) | (with_reducible refine Kd.C_alloc ?_ _) | (with_reducible refine Kd.C_drewN ?_ _) | (with_reducible refine Kd.C_drew ?_))); (case side2 => exact HC0_0.out); rintro e w16 ⟨rfl, hb⟩; refine ⟨_, rfl, ?_⟩; have n0_ := Aside0.mk (blk_below (g := gb128) (o := .cells #[.slice A0_0 l0_0.length c0_0, .int .i64 a0_1] 36 (0, 0)) (by (with_reducible repeat (first | refine blk_drewN ?_ _ | refine blk_drew ?_ | refine blk_alloc ?_ _)); exact BK128.out) hb); have n1_ := Aside0.mk (below_step (by repeat (first | (with_reducible first | exact HB.out | apply below_alloc | apply pw_below_drewN | apply below_drew1 | refine below_set ?_ GE128.out) | exact HB.out)) hb); clear BK128; clear HB; have BK128 := n0_; have HB := n1_; clear n0_ n1_; (try clear hb); (try clear hb2); (try clear hk); (try clear hi)))
            go_meet
            case rel => exact ⟨_, (true), (by first | rfl | (simp; done) | (simp [*]; done)), H', ⟨by first | omega | exact Nat.le_refl _⟩, ⟨by (with_reducible repeat (first | refine blk_drewN ?_ _ | refine blk_drew ?_ | refine blk_alloc ?_ _)); exact BK128.out⟩, ⟨by repeat (first | (with_reducible first | exact HB.out | apply below_alloc | apply pw_below_drewN | apply below_drew1 | refine below_set ?_ GE128.out) | exact HB.out)⟩⟩
          · rw [if_neg c14] at H
            have c14b0 : decide (a1 < 0) = false := decide_eq_false c14
            clear c14
            have H' := Aside0.mk H
            clear H
            have hcz17_0 : w5.cell? ⟨gb128, 0, none⟩ = some (.slice A0_0 l0_0.length c0_0) := (blk_cell BK128.out 0).trans rfl
            have hcz17_1 : w5.cell? ⟨gb128, 1, none⟩ = some (.int .i64 a0_1) := (blk_cell BK128.out 1).trans rfl
            have hfz17_0 := blk_frozen BK128.out 0
            have hfz17_1 := blk_frozen BK128.out 1
            go_wp2_with (first | ((with_reducible refine gate_callee (f := 30) rfl ?_); refine goesL_ (some 11) rfl rfl Try.func30 (by kernel_rfl) rfl #[.agg #[.slice A0_0 l0_0.length c0_0, .int .i64 a0_1]] rfl (by (try simp only [List.map_toArray, List.map_cons, List.map_nil]); first | done | rfl | (simp only [List.length_drop, List.length_take]; rfl)) ?_; (with_reducible refine (bits_Check.calls k _ _ l0_0 a0_1 t129 _ ?side1 ?side2 A6.out).mono ?_); (case side1 => repeat (first | exact (Kd.C_below HR0_0.out HB.out) | (with_reducible refine Kd.C_alloc ?_ _) | (with_reducible refine Kd.C_drewN ?_ _) | (with_reducible refine Kd.C_drew ?_))); (case side2 => exact HC0_0.out); rintro e w18 ⟨rfl, hb⟩; refine ⟨_, rfl, ?_⟩; have n0_ := Aside0.mk (blk_below (g := gb128) (o := .cells #[.slice A0_0 l0_0.length c0_0, .int .i64 a0_1] 36 (0, 0)) (by (with_reducible repeat (first | refine blk_drewN ?_ _ | refine blk_drew ?_ | refine blk_alloc ?_ _)); exact BK128.out) hb); have n1_ := Aside0.mk (below_step (by repeat (first | (with_reducible first | exact HB.out | apply below_alloc | apply pw_below_drewN | apply below_drew1 | refine below_set ?_ GE128.out) | exact HB.out)) hb); clear BK128; clear HB; have BK128 := n0_; have HB := n1_; clear n0_ n1_; (try clear hb); (try clear hb2); (try clear hk); (try clear hi); have hcz19_0 : w18.cell? ⟨gb128, 0, none⟩ = some (.slice A0_0 l0_0.length c0_0) := (blk_cell BK128.out 0).trans rfl; have hcz19_1 : w18.cell? ⟨gb128, 1, none⟩ = some (.int .i64 a0_1) := (blk_cell BK128.out 1).trans rfl; have hfz19_0 := blk_frozen BK128.out 0; have hfz19_1 := blk_frozen BK128.out 1))
            go_meet
            case rel => exact ⟨_, (decide (a1 > a0_1)), (by first | rfl | (simp; done) | (simp [*]; done)), H', ⟨by first | omega | exact Nat.le_refl _⟩, ⟨by (with_reducible repeat (first | refine blk_drewN ?_ _ | refine blk_drew ?_ | refine blk_alloc ?_ _)); exact BK128.out⟩, ⟨by repeat (first | (with_reducible first | exact HB.out | apply below_alloc | apply pw_below_drewN | apply below_drew1 | refine below_set ?_ GE128.out) | exact HB.out)⟩⟩
    · rw [if_neg c7] at H
      have c7b0 : (t129 == 0) = false := beq_eq_false_iff_ne.mpr c7
      have c7b1 : (t129 != 0) = true := bne_iff_ne.mpr c7
      (first | rw [c7b0] | (simp only [i64_w, i32_w, u8_w]; rw [c7b0]) | skip)
      have H' := Aside0.mk H
      clear H
      have hcz20_0 : w5.cell? ⟨gb128, 0, none⟩ = some (.slice A0_0 l0_0.length c0_0) := (blk_cell BK128.out 0).trans rfl
      have hcz20_1 : w5.cell? ⟨gb128, 1, none⟩ = some (.int .i64 a0_1) := (blk_cell BK128.out 1).trans rfl
      have hfz20_0 := blk_frozen BK128.out 0
      have hfz20_1 := blk_frozen BK128.out 1
      go_wp2_with (first | ((with_reducible refine gate_callee (f := 30) rfl ?_); refine goesL_ (some 11) rfl rfl Try.func30 (by kernel_rfl) rfl #[.agg #[.slice A0_0 l0_0.length c0_0, .int .i64 a0_1]] rfl (by (try simp only [List.map_toArray, List.map_cons, List.map_nil]); first | done | rfl | (simp only [List.length_drop, List.length_take]; rfl)) ?_; (with_reducible refine (bits_Check.calls k _ _ l0_0 a0_1 t129 _ ?side1 ?side2 A6.out).mono ?_); (case side1 => repeat (first | exact (Kd.C_below HR0_0.out HB.out) | (with_reducible refine Kd.C_alloc ?_ _) | (with_reducible refine Kd.C_drewN ?_ _) | (with_reducible refine Kd.C_drew ?_))); (case side2 => exact HC0_0.out); rintro e w21 ⟨rfl, hb⟩; refine ⟨_, rfl, ?_⟩; have n0_ := Aside0.mk (blk_below (g := gb128) (o := .cells #[.slice A0_0 l0_0.length c0_0, .int .i64 a0_1] 36 (0, 0)) (by (with_reducible repeat (first | refine blk_drewN ?_ _ | refine blk_drew ?_ | refine blk_alloc ?_ _)); exact BK128.out) hb); have n1_ := Aside0.mk (below_step (by repeat (first | (with_reducible first | exact HB.out | apply below_alloc | apply pw_below_drewN | apply below_drew1 | refine below_set ?_ GE128.out) | exact HB.out)) hb); clear BK128; clear HB; have BK128 := n0_; have HB := n1_; clear n0_ n1_; (try clear hb); (try clear hb2); (try clear hk); (try clear hi)))
      go_meet
      case rel => exact ⟨_, (true), (by first | rfl | (simp; done) | (simp [*]; done)), H', ⟨by first | omega | exact Nat.le_refl _⟩, ⟨by (with_reducible repeat (first | refine blk_drewN ?_ _ | refine blk_drew ?_ | refine blk_alloc ?_ _)); exact BK128.out⟩, ⟨by repeat (first | (with_reducible first | exact HB.out | apply below_alloc | apply pw_below_drewN | apply below_drew1 | refine below_set ?_ GE128.out) | exact HB.out)⟩⟩
  case rest =>
    clear HC4
    try clear c1
    try clear p2
    try clear c3
    try clear c7
    try clear c7b0
    try clear c7b1
    try clear c8
    try clear c8b0
    try clear c11
    try clear c11b0
    try clear c14
    try clear c14b0
    try clear hcz12_0
    try clear hcz12_1
    try clear hcz15_0
    try clear hcz15_1
    try clear hcz17_0
    try clear hcz17_1
    try clear hcz19_0
    try clear hcz19_1
    try clear hcz20_0
    try clear hcz20_1
    try clear hcz9_0
    try clear hcz9_1
    try clear hfz12_0
    try clear hfz12_1
    try clear hfz15_0
    try clear hfz15_1
    try clear hfz17_0
    try clear hfz17_1
    try clear hfz19_0
    try clear hfz19_1
    try clear hfz20_0
    try clear hfz20_1
    try clear hfz9_0
    try clear hfz9_1
    obtain ⟨kq, x30_3, rfl, HA, HJ3, BK128, HB⟩ := hcut
    cases kq with
    | zero => exact absurd HA.out (by simp [bits_Get.j0])
    | succ kj3 =>
      have H := HA.out
      clear HA
      simp only [bits_Get.j0] at H
      by_cases c22 : x30_3 = true
      · subst c22
        have H1 : (some (0, 2)) = some (r1, r2) := by rw [if_pos rfl] at H; exact H
        clear H
        have H := H1
        clear H1
        simp only [Option.some.injEq, Prod.mk.injEq] at H
        obtain ⟨rfl, rfl⟩ := H
        go_wp2
        go_ret2
        exact ⟨by first | rfl | (simp [errW_none, errW_some] <;> rfl) | (simp [*, errW_none, errW_some] <;> rfl), by repeat (first | (with_reducible first | exact HB.out | apply below_alloc | apply pw_below_drewN | apply below_drew1 | refine below_set ?_ GE128.out) | exact HB.out)⟩
      · replace c22 := Bool.eq_false_iff.mpr c22
        subst c22
        have H1 : (if (wrap64 (a0_1 - a1)) < a2 then (some (0, 4)) else (bits_Get.l0 kj3 a1 0 a2 0 l0_0 a0_1)) = some (r1, r2) := by rw [if_neg (show ¬ (false = true) by decide)] at H; exact H
        clear H
        have H := H1
        clear H1
        by_cases c23 : (wrap64 (a0_1 - a1)) < a2
        · rw [if_pos c23] at H
          have c23b0 : decide ((wrap64 (a0_1 - a1)) < a2) = true := decide_eq_true c23
          clear c23
          simp only [Option.some.injEq, Prod.mk.injEq] at H
          obtain ⟨rfl, rfl⟩ := H
          have hcz24_0 : wc.cell? ⟨gb128, 0, none⟩ = some (.slice A0_0 l0_0.length c0_0) := (blk_cell BK128.out 0).trans rfl
          have hcz24_1 : wc.cell? ⟨gb128, 1, none⟩ = some (.int .i64 a0_1) := (blk_cell BK128.out 1).trans rfl
          have hfz24_0 := blk_frozen BK128.out 0
          have hfz24_1 := blk_frozen BK128.out 1
          go_wp2
          go_ret2
          exact ⟨by first | rfl | (simp [errW_none, errW_some] <;> rfl) | (simp [*, errW_none, errW_some] <;> rfl), by repeat (first | (with_reducible first | exact HB.out | apply below_alloc | apply pw_below_drewN | apply below_drew1 | refine below_set ?_ GE128.out) | exact HB.out)⟩
        · rw [if_neg c23] at H
          have c23b0 : decide ((wrap64 (a0_1 - a1)) < a2) = false := decide_eq_false c23
          clear c23
          have H' := Aside0.mk H
          clear H
          have hcz25_0 : wc.cell? ⟨gb128, 0, none⟩ = some (.slice A0_0 l0_0.length c0_0) := (blk_cell BK128.out 0).trans rfl
          have hcz25_1 : wc.cell? ⟨gb128, 1, none⟩ = some (.int .i64 a0_1) := (blk_cell BK128.out 1).trans rfl
          have hfz25_0 := blk_frozen BK128.out 0
          have hfz25_1 := blk_frozen BK128.out 1
          go_wp2
          go_loopg [8, 38] kj3 (fun kq v8 v38 w' => ∃ (x8_2 : Int) (x38_2 : Int), v8 = .int .i64 x8_2 ∧ v38 = .int .i64 x38_2 ∧ Aside0 (bits_Get.l0 kq a1 x8_2 a2 x38_2 l0_0 a0_1 = some (r1, r2)) ∧ Aside0 (kq ≤ kj3) ∧ Aside0 (w'.heap[gb128]? = some (.cells #[(.slice A0_0 l0_0.length c0_0), .int .i64 a0_1] 36 (0, 0))) ∧ Aside0 (Below w.heap.size w w'))
          case atStart => exact ⟨(0), (0), (by first | rfl | (simp; done) | (simp [*]; done)), (by first | rfl | (simp; done) | (simp [*]; done)), H', ⟨Nat.le_refl _⟩, ⟨by (with_reducible repeat (first | refine blk_drewN ?_ _ | refine blk_drew ?_ | refine blk_alloc ?_ _)); exact BK128.out⟩, ⟨by repeat (first | (with_reducible first | exact HB.out | apply below_alloc | apply pw_below_drewN | apply below_drew1 | refine below_set ?_ GE128.out) | exact HB.out)⟩⟩
          case round =>
            clear H'
            try clear c1
            try clear c2
            try clear p2
            try clear c3
            try clear p6
            try clear c7
            try clear c7b0
            try clear c7b1
            try clear c8
            try clear c8b0
            try clear c11
            try clear c11b0
            try clear c14
            try clear c14b0
            try clear c22
            try clear c23
            try clear c23b0
            try clear hcz12_0
            try clear hcz12_1
            try clear hcz15_0
            try clear hcz15_1
            try clear hcz17_0
            try clear hcz17_1
            try clear hcz19_0
            try clear hcz19_1
            try clear hcz20_0
            try clear hcz20_1
            try clear hcz24_0
            try clear hcz24_1
            try clear hcz25_0
            try clear hcz25_1
            try clear hcz9_0
            try clear hcz9_1
            try clear hfz12_0
            try clear hfz12_1
            try clear hfz15_0
            try clear hfz15_1
            try clear hfz17_0
            try clear hfz17_1
            try clear hfz19_0
            try clear hfz19_1
            try clear hfz20_0
            try clear hfz20_1
            try clear hfz24_0
            try clear hfz24_1
            try clear hfz25_0
            try clear hfz25_1
            try clear hfz9_0
            try clear hfz9_1
            try clear p2
            obtain ⟨x8_2, x38_2, rfl, rfl, HA, HK2, BK128, HB⟩ := hrel
            cases gk with
            | zero => exact absurd HA.out (by simp [bits_Get.l0])
            | succ k2 =>
              have H := HA.out
              clear HA
              simp only [bits_Get.l0] at H
              by_cases c26 : x38_2 < a2
              · rw [if_pos c26] at H
                have c26b0 : decide (x38_2 < a2) = true := decide_eq_true c26
                clear c26
                replace H := Option.bind_eq_some_iff.mp H
                obtain ⟨t130, A270, H⟩ := H
                replace H : (if 0 ≤ x38_2 then (bits_Get.l0 k2 a1 (Go.bits .or .i64 x8_2 (shl .i64 t130 x38_2)) a2 (wrap64 (x38_2 + 1)) l0_0 a0_1) else (none)) = some (r1, r2) := H
                have A27 := Aside0.mk A270
                clear A270
                by_cases c28 : 0 ≤ x38_2
                · rw [if_pos c28] at H
                  have c28b0 := eq_true c28
                  have c28b1 : decide (0 ≤ x38_2) = true := decide_eq_true c28
                  clear c28
                  obtain ⟨ji29, hji29⟩ : ∃ j_ : Int, (shl .i64 t130 x38_2) = j_ := ⟨_, rfl⟩
                  replace H : (bits_Get.l0 k2 a1 (Go.bits .or .i64 x8_2 (ji29)) a2 (wrap64 (x38_2 + 1)) l0_0 a0_1) = some (r1, r2) := by first | (rw [hji29] at H; exact H) | (simp only [hji29] at H ⊢; exact H)
                  (try rw [hji29] at A27)
                  have hji29_ : (IntKind.i64.wrap (t130 * 2 ^ min x38_2.toNat 64)) = ji29 := hji29
                  have hji29z : x38_2 ≤ 64 → (IntKind.i64.wrap (t130 * 2 ^ x38_2.toNat)) = ji29 := shl_small hji29
                  have hji29y : (wrap64 (t130 * 2 ^ min x38_2.toNat 64)) = ji29 := (i64_w _).symm.trans hji29_
                  have hji29x : x38_2 ≤ 64 → (wrap64 (t130 * 2 ^ x38_2.toNat)) = ji29 := fun h_ => (i64_w _).symm.trans (hji29z h_)
                  have H' := Aside0.mk H
                  clear H
                  have hcz30_0 : wr.cell? ⟨gb128, 0, none⟩ = some (.slice A0_0 l0_0.length c0_0) := (blk_cell BK128.out 0).trans rfl
                  have hcz30_1 : wr.cell? ⟨gb128, 1, none⟩ = some (.int .i64 a0_1) := (blk_cell BK128.out 1).trans rfl
                  have hfz30_0 := blk_frozen BK128.out 0
                  have hfz30_1 := blk_frozen BK128.out 1
                  go_wp2_with (first | ((with_reducible refine gate_callee (f := 46) rfl ?_); refine goesL_ (some 46) rfl rfl Try.func46 (by kernel_rfl) rfl #[.agg #[.slice A0_0 l0_0.length c0_0, .int .i64 a0_1], .int .i64 (wrap64 (a1 + x38_2))] rfl (by (try simp only [List.map_toArray, List.map_cons, List.map_nil]); first | done | rfl | (simp only [List.length_drop, List.length_take]; rfl)) ?_; (with_reducible refine (bits_bit.calls _ _ l0_0 a0_1 (wrap64 (a1 + x38_2)) t130 _ ?side1 ?side2 A27.out).mono ?_); (case side1 => repeat (first | exact (Kd.C_below HR0_0.out HB.out) | (with_reducible refine Kd.C_alloc ?_ _) | (with_reducible refine Kd.C_drewN ?_ _) | (with_reducible refine Kd.C_drew ?_))); (case side2 => exact HC0_0.out); rintro e w31 ⟨rfl, hb⟩; refine ⟨_, rfl, ?_⟩; have n0_ := Aside0.mk (blk_below (g := gb128) (o := .cells #[.slice A0_0 l0_0.length c0_0, .int .i64 a0_1] 36 (0, 0)) (by (with_reducible repeat (first | refine blk_drewN ?_ _ | refine blk_drew ?_ | refine blk_alloc ?_ _)); exact BK128.out) hb); have n1_ := Aside0.mk (below_step (by repeat (first | (with_reducible first | exact HB.out | apply below_alloc | apply pw_below_drewN | apply below_drew1 | refine below_set ?_ GE128.out) | exact HB.out)) hb); clear BK128; clear HB; have BK128 := n0_; have HB := n1_; clear n0_ n1_; (try clear hb); (try clear hb2); (try clear hk); (try clear hi)))
                  go_roundg k2
                  case measure => have := HJ3.out; have := HK2.out; omega
                  case rel => exact ⟨(Go.bits .or .i64 x8_2 (ji29)), (wrap64 (x38_2 + 1)), (by first | rfl | (simp; done) | (simp only [← hji29] <;> (first | rfl | simp)) | (simp [*]; done)), (by first | rfl | (simp; done) | (simp [*]; done)), H', ⟨by have := HJ3.out; have := HK2.out; omega⟩, ⟨by (with_reducible repeat (first | refine blk_drewN ?_ _ | refine blk_drew ?_ | refine blk_alloc ?_ _)); exact BK128.out⟩, ⟨by repeat (first | (with_reducible first | exact HB.out | apply below_alloc | apply pw_below_drewN | apply below_drew1 | refine below_set ?_ GE128.out) | exact HB.out)⟩⟩
                · rw [if_neg c28] at H
                  exact absurd H (by simp)
              · rw [if_neg c26] at H
                have c26b0 : decide (x38_2 < a2) = false := decide_eq_false c26
                clear c26
                simp only [Option.some.injEq, Prod.mk.injEq] at H
                obtain ⟨rfl, rfl⟩ := H
                go_wp2
                go_ret2
                exact ⟨by first | rfl | (simp [errW_none, errW_some] <;> rfl) | (simp [*, errW_none, errW_some] <;> rfl), by repeat (first | (with_reducible first | exact HB.out | apply below_alloc | apply pw_below_drewN | apply below_drew1 | refine below_set ?_ GE128.out) | exact HB.out)⟩

-- NOT PRINTED: function 23 (huff_Table_Read)

end Go.Proofs.Ythcndpdfcippiaa.Pr

-- YthcndpdfcippiaaPr16
namespace Go.Proofs.Ythcndpdfcippiaa.Pr
open Go.RowKit Go.Proofs.YthcndpdfcippiaaW.PrintWords Go.Proofs.YthcndpdfcippiaaW.PrintLast Go.Proofs.YthcndpdfcippiaaW.PrintMore
attribute [local go_sem] max2_int min2_int max_two min_two max_three min_three max_four min_four   -- for this text's walks alone
set_option linter.unusedVariables false
set_option linter.unusedSimpArgs false

/-! ### valiselaw04_lives: function 16 (by hand) -/

/-- A table's cells: how many codes there are of each length, and the symbols. -/
def tblCells (cl : List Int) (A : Option Addr) (n c : Nat) : Array Value := (cl.map (Value.int .i64) ++ [Value.slice A n c]).toArray
theorem tbl_cell {W : World} {g n c : Nat} {A : Option Addr} {cl : List Int} (h : W.heap[g]? = some (.cells (tblCells cl A n c) 70 (0, 0))) (hl : cl.length = 16) (i : Nat) (hi : i < 16) : W.cell? ⟨g, i, none⟩ = some (.int .i64 (rd cl (i : Int))) := by
  rw [blk_cell h]
  unfold tblCells rd
  rw [List.getElem?_toArray, List.getElem?_append_left (by simp; omega), List.getElem?_map, List.getD_eq_getElem?_getD, Int.toNat_natCast, List.getElem?_eq_getElem (show i < cl.length by omega)]
  rfl
theorem tbl_slice {W : World} {g n c : Nat} {A : Option Addr} {cl : List Int} (h : W.heap[g]? = some (.cells (tblCells cl A n c) 70 (0, 0))) (hl : cl.length = 16) : W.cell? ⟨g, 16, none⟩ = some (Value.slice A n c) := by
  rw [blk_cell h]
  unfold tblCells
  rw [List.getElem?_toArray, List.getElem?_append_right (by simp; omega)]
  simp [hl]
def TableAt (w : World) (g : Nat) (cl ss : List Int) : Prop := cl.length = 16 ∧ ∃ A c, w.heap[g]? = some (.cells (tblCells cl A ss.length c) 70 (0, 0)) ∧ Kd.C (Kd.int .i64) w A ss.length ss
def readL (k : Nat) (cl ss l : List Int) (m : Int) : Nat → Int → Int → Int → Int → Option (Int × Int × Int)
  | 0, _, _, _, _ => some (0, 0, 13)
  | d + 1, p, code, first, frm => (bits_Get.f k l m p 1).bind fun t => if t.2 = 0 then
      (if wrap64 (Go.bits .or .i64 (wrap64 (code * 2)) t.1 - wrap64 (first * 2)) < rd cl ((15 - d : Nat) : Int) then
        (if 0 ≤ wrap64 (wrap64 (frm + Go.bits .or .i64 (wrap64 (code * 2)) t.1) - wrap64 (first * 2)) then (if wrap64 (wrap64 (frm + Go.bits .or .i64 (wrap64 (code * 2)) t.1) - wrap64 (first * 2)) < (ss.length : Int) then some (rd ss (wrap64 (wrap64 (frm + Go.bits .or .i64 (wrap64 (code * 2)) t.1) - wrap64 (first * 2))), wrap64 (p + 1), 0) else none) else none)
      else if wrap64 (frm + rd cl ((15 - d : Nat) : Int)) = (ss.length : Int) then some (0, 0, 13)
      else readL k cl ss l m d (wrap64 (p + 1)) (Go.bits .or .i64 (wrap64 (code * 2)) t.1) (wrap64 (wrap64 (first * 2) + rd cl ((15 - d : Nat) : Int))) (wrap64 (frm + rd cl ((15 - d : Nat) : Int)))) else some (0, 0, 4)
/-- What Read tells of a table. -/
def readF (k : Nat) (cl ss l : List Int) (m p : Int) : Option (Int × Int × Int) :=
  (bits_Check.f k l m).bind fun e => if e = 0 then (if p < 0 then some (0, 0, 2) else if p > m then some (0, 0, 2) else readL k cl ss l m 15 p 0 0 0) else some (0, 0, 2)
section
attribute [local go_sem] Oper.semAt_some
set_option maxHeartbeats 4000000 in
set_option maxRecDepth 100000 in
theorem table_Read.nil (A : Option Addr) (c : Nat) (l : List Int) (m p : Int) (w : World) : Calls Try.prog 23 #[.pointer none, .agg #[.slice A l.length c, .int .i64 m], .int .i64 p] w fun e w' => e = .returned (.tuple #[.int .i64 0, .int .i64 0, .int .i64 1]) ∧ Below w.heap.size w w' := by
  go_enter Try.func23, Try.ntmps23
  go_wp2
  go_ret3
  exact ⟨rfl, below_alloc (Below.refl _ _) _⟩
set_option maxHeartbeats 4000000 in
set_option maxRecDepth 100000 in
theorem table_Read.calls (k g : Nat) (A : Option Addr) (c : Nat) (l : List Int) (m p : Int) (cl ss : List Int) (r1 r2 r3 : Int) (w : World) (hr : Kd.C (Kd.int .u8) w A l.length l) (hc : l.length ≤ c) (ht : TableAt w g cl ss) (h : readF k cl ss l m p = some (r1, r2, r3)) :
    Calls Try.prog 23 #[.pointer (some ⟨g, 0, none⟩), .agg #[.slice A l.length c, .int .i64 m], .int .i64 p] w fun e w' => e = .returned (.tuple #[.int .i64 r1, .int .i64 r2, .int .i64 r3]) ∧ Below w.heap.size w w' := by
  have HR := Aside0.mk hr
  have HC := Aside0.mk hc
  have HB := Aside0.mk (Below.refl w.heap.size w)
  obtain ⟨hcl, At, ct, htb, htc⟩ := ht
  have HL := Aside0.mk hcl
  have TB := Aside0.mk htb
  have TC := Aside0.mk htc
  clear hr hc hcl htb htc
  unfold readF at h
  obtain ⟨e, E1, h⟩ := Option.bind_eq_some_iff.mp h
  have HE := Aside0.mk E1
  clear E1
  by_cases he : e = 0
  · rw [if_pos he] at h
    subst he
    by_cases s0 : p < 0
    · rw [if_pos s0] at h
      have s0b : decide (p < 0) = true := decide_eq_true s0
      replace s0 := eq_true s0
      injection h with h
      injection h with h1 h
      injection h with h2 h3
      subst h1 h2 h3
      go_enter Try.func23, Try.ntmps23
      go_wp2_with (first
        | ((with_reducible refine gate_dst (N := 4) rfl ?_); refine box_event ?hg (N := 4) ?hd (cs := #[.slice A l.length c, .int .i64 m]) (t := 36) ?hr ?_; (case hd => rfl); (case hg => rfl); (case hr => first | (go_simp; done) | (go_simp; rfl)); intro g4 hg w3 hbox hb; have n0 := Aside0.mk (below_then HB.out HB.out.size hb); have n1 := Aside0.mk (blk_below TB.out hb); have n2 := Aside0.mk (Kd.C_below TC.out hb); have n3 := Aside0.mk (hbox); have n4 := Aside0.mk ((by rw [hg]; exact HB.out.size : w.heap.size ≤ g4)); clear HB TB TC; have HB := n0; have TB := n1; have TC := n2; have B4 := n3; have G4 := n4; clear n0 n1 n2 n3 n4; clear hg hbox hb; have hcg40 : w3.cell? ⟨g4, 0, none⟩ = some (.slice A l.length c) := (blk_cell B4.out 0).trans rfl; have hcg41 : w3.cell? ⟨g4, 1, none⟩ = some (.int .i64 m) := (blk_cell B4.out 1).trans rfl)
        | (go_at_call 30; refine (bits_Check.calls k A c l m 0 _ (Kd.C_below HR.out HB.out) HC.out HE.out).mono ?_; rintro e_ w4 ⟨rfl, hb⟩; have n0 := Aside0.mk (below_then HB.out HB.out.size hb); have n1 := Aside0.mk (blk_below B4.out hb); have n2 := Aside0.mk (blk_below TB.out hb); have n3 := Aside0.mk (Kd.C_below TC.out hb); clear HB B4 TB TC; have HB := n0; have B4 := n1; have TB := n2; have TC := n3; clear n0 n1 n2 n3; clear hb; clear hcg40 hcg41; have hcg40 : w4.cell? ⟨g4, 0, none⟩ = some (.slice A l.length c) := (blk_cell B4.out 0).trans rfl; have hcg41 : w4.cell? ⟨g4, 1, none⟩ = some (.int .i64 m) := (blk_cell B4.out 1).trans rfl)
        )
      go_ret3
      exact ⟨rfl, by repeat (first | (with_reducible first | exact HB.out | apply below_alloc | apply pw_below_drewN | apply below_drew1) | exact HB.out)⟩
    · rw [if_neg s0] at h
      have s0b : decide (p < 0) = false := decide_eq_false s0
      by_cases s1 : p > m
      · rw [if_pos s1] at h
        have s1b : decide (m < p) = true := decide_eq_true s1
        have s1c := eq_true (show m < p from s1)
        replace s0 := eq_false s0
        clear s1
        injection h with h
        injection h with h1 h
        injection h with h2 h3
        subst h1 h2 h3
        go_enter Try.func23, Try.ntmps23
        go_wp2_with (first
        | ((with_reducible refine gate_dst (N := 4) rfl ?_); refine box_event ?hg (N := 4) ?hd (cs := #[.slice A l.length c, .int .i64 m]) (t := 36) ?hr ?_; (case hd => rfl); (case hg => rfl); (case hr => first | (go_simp; done) | (go_simp; rfl)); intro g4 hg w3 hbox hb; have n0 := Aside0.mk (below_then HB.out HB.out.size hb); have n1 := Aside0.mk (blk_below TB.out hb); have n2 := Aside0.mk (Kd.C_below TC.out hb); have n3 := Aside0.mk (hbox); have n4 := Aside0.mk ((by rw [hg]; exact HB.out.size : w.heap.size ≤ g4)); clear HB TB TC; have HB := n0; have TB := n1; have TC := n2; have B4 := n3; have G4 := n4; clear n0 n1 n2 n3 n4; clear hg hbox hb; have hcg40 : w3.cell? ⟨g4, 0, none⟩ = some (.slice A l.length c) := (blk_cell B4.out 0).trans rfl; have hcg41 : w3.cell? ⟨g4, 1, none⟩ = some (.int .i64 m) := (blk_cell B4.out 1).trans rfl)
        | (go_at_call 30; refine (bits_Check.calls k A c l m 0 _ (Kd.C_below HR.out HB.out) HC.out HE.out).mono ?_; rintro e_ w4 ⟨rfl, hb⟩; have n0 := Aside0.mk (below_then HB.out HB.out.size hb); have n1 := Aside0.mk (blk_below B4.out hb); have n2 := Aside0.mk (blk_below TB.out hb); have n3 := Aside0.mk (Kd.C_below TC.out hb); clear HB B4 TB TC; have HB := n0; have B4 := n1; have TB := n2; have TC := n3; clear n0 n1 n2 n3; clear hb; clear hcg40 hcg41; have hcg40 : w4.cell? ⟨g4, 0, none⟩ = some (.slice A l.length c) := (blk_cell B4.out 0).trans rfl; have hcg41 : w4.cell? ⟨g4, 1, none⟩ = some (.int .i64 m) := (blk_cell B4.out 1).trans rfl)
        )
        go_ret3
        exact ⟨rfl, by repeat (first | (with_reducible first | exact HB.out | apply below_alloc | apply pw_below_drewN | apply below_drew1) | exact HB.out)⟩
      · rw [if_neg s1] at h
        have s1b : decide (m < p) = false := decide_eq_false s1
        have s1c := eq_false (show ¬ m < p from s1)
        replace s0 := eq_false s0
        have H' := Aside0.mk h
        clear h s1
        go_enter Try.func23, Try.ntmps23
        go_wp2_with (first
        | ((with_reducible refine gate_dst (N := 4) rfl ?_); refine box_event ?hg (N := 4) ?hd (cs := #[.slice A l.length c, .int .i64 m]) (t := 36) ?hr ?_; (case hd => rfl); (case hg => rfl); (case hr => first | (go_simp; done) | (go_simp; rfl)); intro g4 hg w3 hbox hb; have n0 := Aside0.mk (below_then HB.out HB.out.size hb); have n1 := Aside0.mk (blk_below TB.out hb); have n2 := Aside0.mk (Kd.C_below TC.out hb); have n3 := Aside0.mk (hbox); have n4 := Aside0.mk ((by rw [hg]; exact HB.out.size : w.heap.size ≤ g4)); clear HB TB TC; have HB := n0; have TB := n1; have TC := n2; have B4 := n3; have G4 := n4; clear n0 n1 n2 n3 n4; clear hg hbox hb; have hcg40 : w3.cell? ⟨g4, 0, none⟩ = some (.slice A l.length c) := (blk_cell B4.out 0).trans rfl; have hcg41 : w3.cell? ⟨g4, 1, none⟩ = some (.int .i64 m) := (blk_cell B4.out 1).trans rfl)
        | (go_at_call 30; refine (bits_Check.calls k A c l m 0 _ (Kd.C_below HR.out HB.out) HC.out HE.out).mono ?_; rintro e_ w4 ⟨rfl, hb⟩; have n0 := Aside0.mk (below_then HB.out HB.out.size hb); have n1 := Aside0.mk (blk_below B4.out hb); have n2 := Aside0.mk (blk_below TB.out hb); have n3 := Aside0.mk (Kd.C_below TC.out hb); clear HB B4 TB TC; have HB := n0; have B4 := n1; have TB := n2; have TC := n3; clear n0 n1 n2 n3; clear hb; clear hcg40 hcg41; have hcg40 : w4.cell? ⟨g4, 0, none⟩ = some (.slice A l.length c) := (blk_cell B4.out 0).trans rfl; have hcg41 : w4.cell? ⟨g4, 1, none⟩ = some (.int .i64 m) := (blk_cell B4.out 1).trans rfl)
        )
        clear s0 s0b s1b s1c hcg40 hcg41
        go_loopw [2, 9, 10, 11, 12] (fun x2 x9 x10 x11 x12 w' => ∃ (d : Nat) (p2 code fst frm : Int), d ≤ 15 ∧ x2 = .int .i64 p2 ∧ x9 = .int .i64 code ∧ x10 = .int .i64 fst ∧ x11 = .int .i64 frm ∧ x12 = .int .i64 ((16 - d : Nat) : Int) ∧ Aside0 (readL k cl ss l m d p2 code fst frm = some (r1, r2, r3)) ∧ Aside0 (w'.heap[g4]? = some (.cells #[.slice A l.length c, .int .i64 m] 36 (0, 0))) ∧ Aside0 (w'.heap[g]? = some (.cells (tblCells cl At ss.length ct) 70 (0, 0))) ∧ Aside0 (Kd.C (Kd.int .i64) w' At ss.length ss) ∧ Aside0 (Below w.heap.size w w'))
          (fun _ _ _ _ x12 _ => 16 - (intOf x12).toNat)
        case atStart => exact ⟨15, p, 0, 0, 0, by omega, rfl, rfl, rfl, rfl, rfl, H', B4, TB, TC, HB⟩
        case round =>
          clear H' B4 TB TC HB
          obtain ⟨d, p2, code, fst, frm, hd, rfl, rfl, rfl, rfl, rfl, H, B4, TB, TC, HB⟩ := hrel
          cases d with
          | zero =>
            simp only [readL] at H
            have H1 := H.out
            injection H1 with h
            injection h with h1 h
            injection h with h2 h3
            subst h1 h2 h3
            have q := eq_false (show ¬ ((16 - 0 : Nat) : Int) ≤ 15 by omega)
            clear H
            go_wp2
            go_ret3
            exact ⟨rfl, HB.out⟩
          | succ d =>
            obtain ⟨lm, hlm⟩ : ∃ lm : Nat, 16 - (d + 1) = lm := ⟨_, rfl⟩
            have hlm2 : 15 - d = lm := by omega
            rw [hlm]
            have H1 := H.out
            simp only [readL, hlm2] at H1
            clear H
            have q := eq_true (show (lm : Int) ≤ 15 by omega)
            have q0 := eq_true (show (0 : Int) ≤ (lm : Int) by omega)
            have q1 := eq_true (show (lm : Int) < 16 by omega)
            have q2 := eq_true (show lm < 16 by omega)
            have q3 := eq_true (show lm ≤ 15 by omega)
            have LM := Aside0.mk (show lm < 16 by omega)
            obtain ⟨⟨bit, er⟩, E2, H1⟩ := Option.bind_eq_some_iff.mp H1
            have HG := Aside0.mk E2
            clear E2
            dsimp only at H1
            obtain ⟨nn, hnn⟩ : ∃ z, rd cl (lm : Int) = z := ⟨_, rfl⟩
            rw [hnn] at H1
            have NN := Aside0.mk hnn
            clear hnn
            have hcg40 : wr.cell? ⟨g4, 0, none⟩ = some (.slice A l.length c) := (blk_cell B4.out 0).trans rfl
            have hcg41 : wr.cell? ⟨g4, 1, none⟩ = some (.int .i64 m) := (blk_cell B4.out 1).trans rfl
            by_cases her : er = 0
            · rw [if_pos her] at H1
              subst her
              obtain ⟨f2, hf2⟩ : ∃ z, wrap64 (fst * 2) = z := ⟨_, rfl⟩
              obtain ⟨c2, hc2⟩ : ∃ z, Go.bits .or .i64 (wrap64 (code * 2)) bit = z := ⟨_, rfl⟩
              obtain ⟨dd, hdd⟩ : ∃ z, wrap64 (c2 - f2) = z := ⟨_, rfl⟩
              obtain ⟨fr2, hfr⟩ : ∃ z, wrap64 (frm + nn) = z := ⟨_, rfl⟩
              obtain ⟨p3, hp3⟩ : ∃ z, wrap64 (p2 + 1) = z := ⟨_, rfl⟩
              rw [hc2, hf2, hdd, hfr, hp3] at H1
              by_cases t1 : dd < nn
              · rw [if_pos t1] at H1
                obtain ⟨ix, hix⟩ : ∃ z, wrap64 (wrap64 (frm + c2) - f2) = z := ⟨_, rfl⟩
                rw [hix] at H1
                by_cases x0 : 0 ≤ ix
                · rw [if_pos x0] at H1
                  by_cases x1 : ix < (ss.length : Int)
                  · rw [if_pos x1] at H1
                    injection H1 with h
                    injection h with h1 h
                    injection h with h2 h3
                    subst h1 h2 h3
                    obtain ⟨ad, rfl, hx⟩ := Kd.at_int TC.out ix (by omega) (by omega)
                    have HX := Aside0.mk hx
                    clear hx
                    have t1b : decide (dd < nn) = true := decide_eq_true t1
                    replace t1 := eq_true t1
                    replace x0 := eq_true x0
                    replace x1 := eq_true x1
                    go_wp2_with (first
        | (go_at_call 38; refine (bits_Get.calls k A c l m p2 1 bit 0 _ (Kd.C_below HR.out HB.out) HC.out HG.out).mono ?_; rintro e_ w5 ⟨rfl, hb⟩; have n0 := Aside0.mk (below_then HB.out HB.out.size hb); have n1 := Aside0.mk (blk_below B4.out hb); have n2 := Aside0.mk (blk_below TB.out hb); have n3 := Aside0.mk (Kd.C_below TC.out hb); have n4 := Aside0.mk (pw_cell_below hb HX.out); clear HB B4 TB TC HX; have HB := n0; have B4 := n1; have TB := n2; have TC := n3; have HX := n4; clear n0 n1 n2 n3 n4; clear hb; clear hcg40 hcg41; have hcg40 : w5.cell? ⟨g4, 0, none⟩ = some (.slice A l.length c) := (blk_cell B4.out 0).trans rfl; have hcg41 : w5.cell? ⟨g4, 1, none⟩ = some (.int .i64 m) := (blk_cell B4.out 1).trans rfl; have htl := tbl_cell TB.out HL.out lm LM.out; rw [NN.out] at htl; have hts := tbl_slice TB.out HL.out; have hxs := HX.out)
        )
                    go_ret3
                    exact ⟨by rw [← hp3]; rfl, HB.out⟩
                  · rw [if_neg x1] at H1
                    cases H1
                · rw [if_neg x0] at H1
                  cases H1
              · rw [if_neg t1] at H1
                have t1b : decide (dd < nn) = false := decide_eq_false t1
                replace t1 := eq_false t1
                by_cases t2 : fr2 = (ss.length : Int)
                · rw [if_pos t2] at H1
                  injection H1 with h
                  injection h with h1 h
                  injection h with h2 h3
                  subst h1 h2 h3
                  have t2b : (fr2 == (ss.length : Int)) = true := beq_iff_eq.mpr t2
                  replace t2 := eq_true t2
                  go_wp2_with (first
        | (go_at_call 38; refine (bits_Get.calls k A c l m p2 1 bit 0 _ (Kd.C_below HR.out HB.out) HC.out HG.out).mono ?_; rintro e_ w5 ⟨rfl, hb⟩; have n0 := Aside0.mk (below_then HB.out HB.out.size hb); have n1 := Aside0.mk (blk_below B4.out hb); have n2 := Aside0.mk (blk_below TB.out hb); have n3 := Aside0.mk (Kd.C_below TC.out hb); clear HB B4 TB TC; have HB := n0; have B4 := n1; have TB := n2; have TC := n3; clear n0 n1 n2 n3; clear hb; clear hcg40 hcg41; have hcg40 : w5.cell? ⟨g4, 0, none⟩ = some (.slice A l.length c) := (blk_cell B4.out 0).trans rfl; have hcg41 : w5.cell? ⟨g4, 1, none⟩ = some (.int .i64 m) := (blk_cell B4.out 1).trans rfl; have htl := tbl_cell TB.out HL.out lm LM.out; rw [NN.out] at htl; have hts := tbl_slice TB.out HL.out)
        )
                  go_ret3
                  exact ⟨rfl, HB.out⟩
                · rw [if_neg t2] at H1
                  have t2b : (fr2 == (ss.length : Int)) = false := beq_eq_false_iff_ne.mpr t2
                  replace t2 := eq_false t2
                  have H2 := Aside0.mk H1
                  clear H1
                  go_wp2_with (first
        | (go_at_call 38; refine (bits_Get.calls k A c l m p2 1 bit 0 _ (Kd.C_below HR.out HB.out) HC.out HG.out).mono ?_; rintro e_ w5 ⟨rfl, hb⟩; have n0 := Aside0.mk (below_then HB.out HB.out.size hb); have n1 := Aside0.mk (blk_below B4.out hb); have n2 := Aside0.mk (blk_below TB.out hb); have n3 := Aside0.mk (Kd.C_below TC.out hb); clear HB B4 TB TC; have HB := n0; have B4 := n1; have TB := n2; have TC := n3; clear n0 n1 n2 n3; clear hb; clear hcg40 hcg41; have hcg40 : w5.cell? ⟨g4, 0, none⟩ = some (.slice A l.length c) := (blk_cell B4.out 0).trans rfl; have hcg41 : w5.cell? ⟨g4, 1, none⟩ = some (.int .i64 m) := (blk_cell B4.out 1).trans rfl; have htl := tbl_cell TB.out HL.out lm LM.out; rw [NN.out] at htl; have hts := tbl_slice TB.out HL.out)
        )
                  go_roundw
                  case rel => exact ⟨d, p3, c2, wrap64 (f2 + nn), fr2, by omega, by first | rfl | (simp [*]; done), by first | rfl | (simp [*]; done), by first | rfl | (simp [*]; done), by first | rfl | (simp [*]; done), by first | rfl | (congr 1; omega) | (simp; omega), H2, B4, TB, TC, HB⟩
                  case measure => simp [intOf]; omega
            · rw [if_neg her] at H1
              injection H1 with h
              injection h with h1 h
              injection h with h2 h3
              subst h1 h2 h3
              have heb : (er == 0) = false := beq_eq_false_iff_ne.mpr her
              have hec : (er != 0) = true := bne_iff_ne.mpr her
              clear her
              go_wp2_with (first
        | (go_at_call 38; refine (bits_Get.calls k A c l m p2 1 bit er _ (Kd.C_below HR.out HB.out) HC.out HG.out).mono ?_; rintro e_ w5 ⟨rfl, hb⟩; have n0 := Aside0.mk (below_then HB.out HB.out.size hb); have n1 := Aside0.mk (blk_below B4.out hb); have n2 := Aside0.mk (blk_below TB.out hb); have n3 := Aside0.mk (Kd.C_below TC.out hb); clear HB B4 TB TC; have HB := n0; have B4 := n1; have TB := n2; have TC := n3; clear n0 n1 n2 n3; clear hb; clear hcg40 hcg41; have hcg40 : w5.cell? ⟨g4, 0, none⟩ = some (.slice A l.length c) := (blk_cell B4.out 0).trans rfl; have hcg41 : w5.cell? ⟨g4, 1, none⟩ = some (.int .i64 m) := (blk_cell B4.out 1).trans rfl; have htl := tbl_cell TB.out HL.out lm LM.out; rw [NN.out] at htl; have hts := tbl_slice TB.out HL.out)
        )
              go_ret3
              exact ⟨rfl, HB.out⟩
  · rw [if_neg he] at h
    have heb : (e == 0) = false := beq_eq_false_iff_ne.mpr he
    have hec : (e != 0) = true := bne_iff_ne.mpr he
    clear he
    injection h with h
    injection h with h1 h
    injection h with h2 h3
    subst h1 h2 h3
    go_enter Try.func23, Try.ntmps23
    go_wp2_with (first
        | ((with_reducible refine gate_dst (N := 4) rfl ?_); refine box_event ?hg (N := 4) ?hd (cs := #[.slice A l.length c, .int .i64 m]) (t := 36) ?hr ?_; (case hd => rfl); (case hg => rfl); (case hr => first | (go_simp; done) | (go_simp; rfl)); intro g4 hg w3 hbox hb; have n0 := Aside0.mk (below_then HB.out HB.out.size hb); have n1 := Aside0.mk (blk_below TB.out hb); have n2 := Aside0.mk (Kd.C_below TC.out hb); have n3 := Aside0.mk (hbox); have n4 := Aside0.mk ((by rw [hg]; exact HB.out.size : w.heap.size ≤ g4)); clear HB TB TC; have HB := n0; have TB := n1; have TC := n2; have B4 := n3; have G4 := n4; clear n0 n1 n2 n3 n4; clear hg hbox hb; have hcg40 : w3.cell? ⟨g4, 0, none⟩ = some (.slice A l.length c) := (blk_cell B4.out 0).trans rfl; have hcg41 : w3.cell? ⟨g4, 1, none⟩ = some (.int .i64 m) := (blk_cell B4.out 1).trans rfl)
        | (go_at_call 30; refine (bits_Check.calls k A c l m e _ (Kd.C_below HR.out HB.out) HC.out HE.out).mono ?_; rintro e_ w4 ⟨rfl, hb⟩; have n0 := Aside0.mk (below_then HB.out HB.out.size hb); have n1 := Aside0.mk (blk_below B4.out hb); have n2 := Aside0.mk (blk_below TB.out hb); have n3 := Aside0.mk (Kd.C_below TC.out hb); clear HB B4 TB TC; have HB := n0; have B4 := n1; have TB := n2; have TC := n3; clear n0 n1 n2 n3; clear hb; clear hcg40 hcg41; have hcg40 : w4.cell? ⟨g4, 0, none⟩ = some (.slice A l.length c) := (blk_cell B4.out 0).trans rfl; have hcg41 : w4.cell? ⟨g4, 1, none⟩ = some (.int .i64 m) := (blk_cell B4.out 1).trans rfl)
        )
    go_ret3
    exact ⟨rfl, by repeat (first | (with_reducible first | exact HB.out | apply below_alloc | apply pw_below_drewN | apply below_drew1) | exact HB.out)⟩
end

def valiselaw04_lives.f : Option Bool := some true
section
attribute [local go_sem] Oper.semAt_some
set_option maxHeartbeats 8000000 in
set_option maxRecDepth 100000 in
theorem valiselaw04_lives.calls (r : Bool) (w : World) (h : valiselaw04_lives.f = some r) : Calls Try.prog 16 #[] w fun e w' => e = .returned (.bool r) ∧ Below w.heap.size w w' := by
  injection h with h
  subst h
  have HB := Aside0.mk (Below.refl w.heap.size w)
  go_enter Try.func16, Try.ntmps16
  go_upto_region 3 with (first
    | ((with_reducible refine gate_dst (N := 14) rfl ?_); (try (refine gate_guard (by rfl) ?_; dsimp only)); refine Kd.R_lit (Kd.int .i64) _ 3 ?hg (N := 14) ?hd (xs := ([2, 1, 3, 3] : List Int)) (inner := [.int .i64 2, .int .i64 1, .int .i64 3, .int .i64 3]) (ok := fun _ => True) (okp := fun _ => True) ?hr ?hp (fun _ hk => hk) trivial (Below.refl _ _) (Nat.le_refl _) (by simp) ?_; (case hd => rfl); (case hg => rfl); (case hr => first | (go_simp; done) | (go_simp; rfl)); (case hp => exact (Reps.one (show Kd.M (Kd.int .i64) _ _ _ 2 [.int .i64 2] from rfl) (Reps.one (show Kd.M (Kd.int .i64) _ _ _ 1 [.int .i64 1] from rfl) (Reps.one (show Kd.M (Kd.int .i64) _ _ _ 3 [.int .i64 3] from rfl) (Reps.one (show Kd.M (Kd.int .i64) _ _ _ 3 [.int .i64 3] from rfl) (Reps.none _ _)))))); intro v1 w1 ho1 hb hg_ hnew_; obtain ⟨A1, c1, ev1⟩ := Kd.R_slice ho1; subst ev1; have n0 := Aside0.mk (below_then HB.out HB.out.size hb); have n1 := Aside0.mk ((Kd.R_reads' ho1).2.2); have n2 := Aside0.mk ((Kd.R_reads' ho1).2.1); clear HB; have HB := n0; have LC1 := n1; have LE1 := n2; clear n0 n1 n2; clear hb hg_ hnew_ ho1)
    | (have tk1 := LC1.out; clear tk1; go_at_call 11; refine (huff_Codes.calls A1 c1 [2, 1, 3, 3] [2, 0, 6, 7] 0 _ LC1.out LE1.out (by decide +kernel)).mono ?_; rintro e_ wc ⟨vc, rfl, hoc, hb⟩; obtain ⟨Ac, cc, evc⟩ := Kd.R_slice hoc; subst evc; have n0 := Aside0.mk (below_then HB.out HB.out.size hb); have n1 := Aside0.mk (hoc); clear HB; have HB := n0; have HC := n1; clear n0 n1; clear hb; clear hoc LC1 LE1)
    | ((with_reducible refine gate_dst (N := 20) rfl ?_); (try (refine gate_guard (by rfl) ?_; dsimp only)); refine Kd.R_lit (Kd.int .i64) _ 3 ?hg (N := 20) ?hd (xs := ([2, 1, 3, 3] : List Int)) (inner := [.int .i64 2, .int .i64 1, .int .i64 3, .int .i64 3]) (ok := fun _ => True) (okp := fun _ => True) ?hr ?hp (fun _ hk => hk) trivial (Below.refl _ _) (Nat.le_refl _) (by simp) ?_; (case hd => rfl); (case hg => rfl); (case hr => first | (go_simp; done) | (go_simp; rfl)); (case hp => exact (Reps.one (show Kd.M (Kd.int .i64) _ _ _ 2 [.int .i64 2] from rfl) (Reps.one (show Kd.M (Kd.int .i64) _ _ _ 1 [.int .i64 1] from rfl) (Reps.one (show Kd.M (Kd.int .i64) _ _ _ 3 [.int .i64 3] from rfl) (Reps.one (show Kd.M (Kd.int .i64) _ _ _ 3 [.int .i64 3] from rfl) (Reps.none _ _)))))); intro v2 w2 ho2 hb hg_ hnew_; obtain ⟨A2, c2, ev2⟩ := Kd.R_slice ho2; subst ev2; have n0 := Aside0.mk (below_then HB.out HB.out.size hb); have n1 := Aside0.mk (Kd.R_below HC.out hb); have n2 := Aside0.mk ((Kd.R_reads' ho2).2.2); have n3 := Aside0.mk ((Kd.R_reads' ho2).2.1); clear HB HC; have HB := n0; have HC := n1; have LC2 := n2; have LE2 := n3; clear n0 n1 n2 n3; clear hb hg_ hnew_ ho2)
    | (go_at_call 18; refine (huff_Put.calls 200 none 0 [] 0 A2 c2 [2, 1, 3, 3] 2 [3] 3 0 _ (Kd.C_nil _ _) (Nat.le_refl _) LC2.out LE2.out (by decide +kernel)).mono ?_; rintro e_ wp ⟨vp, rfl, hop, hb⟩; obtain ⟨Ap, cp, evp⟩ := Kd.R_slice hop; subst evp; have n0 := Aside0.mk (below_then HB.out HB.out.size hb); have n1 := Aside0.mk (Kd.R_below HC.out hb); have n2 := Aside0.mk (hop); clear HB HC; have HB := n0; have HC := n1; have HP := n2; clear n0 n1 n2; clear hb; clear hop LC2 LE2)
    )
  have BT := Aside0.mk (blk_new wp (.cells #[Value.slice Ap ([3] : List Int).length cp, Value.int IntKind.i64 3] 36 (0, 0)))
  obtain ⟨gb, hgb⟩ : ∃ gb, wp.heap.size = gb := ⟨_, rfl⟩
  rw [hgb] at BT ⊢
  have hb := below_alloc (Below.refl wp.heap.size wp) (.cells #[Value.slice Ap ([3] : List Int).length cp, Value.int IntKind.i64 3] 36 (0, 0))
  have n0 := Aside0.mk (below_then HB.out HB.out.size hb)
  have n1 := Aside0.mk (Kd.R_below HC.out hb)
  have n2 := Aside0.mk (Kd.R_below HP.out hb)
  clear HB HC HP
  have HB := n0
  have HC := n1
  have HP := n2
  clear n0 n1 n2
  clear hb hgb
  trace_state
  generalize (wp.alloc (.cells #[Value.slice Ap ([3] : List Int).length cp, Value.int IntKind.i64 3] 36 (0, 0))) = wq at HB HC HP BT ⊢
  go_wp2_with (first
    | ((with_reducible refine gate_dst (N := 25) rfl ?_); (try (refine gate_guard (by rfl) ?_; dsimp only)); refine Kd.R_lit (Kd.int .i64) _ 3 ?hg (N := 25) ?hd (xs := ([0, 1] : List Int)) (inner := [.int .i64 0, .int .i64 1]) (ok := fun _ => True) (okp := fun _ => True) ?hr ?hp (fun _ hk => hk) trivial (Below.refl _ _) (Nat.le_refl _) (by simp) ?_; (case hd => rfl); (case hg => rfl); (case hr => first | (go_simp; done) | (go_simp; rfl)); (case hp => exact (Reps.one (show Kd.M (Kd.int .i64) _ _ _ 0 [.int .i64 0] from rfl) (Reps.one (show Kd.M (Kd.int .i64) _ _ _ 1 [.int .i64 1] from rfl) (Reps.none _ _)))); intro v3 w3 ho3 hb hg_ hnew_; obtain ⟨A3, c3, ev3⟩ := Kd.R_slice ho3; subst ev3; have n0 := Aside0.mk (below_then HB.out HB.out.size hb); have n1 := Aside0.mk (Kd.R_below HC.out hb); have n2 := Aside0.mk (Kd.R_below HP.out hb); have n3 := Aside0.mk (blk_below BT.out hb); have n4 := Aside0.mk ((Kd.R_reads' ho3).2.2); have n5 := Aside0.mk ((Kd.R_reads' ho3).2.1); clear HB HC HP BT; have HB := n0; have HC := n1; have HP := n2; have BT := n3; have LC3 := n4; have LE3 := n5; clear n0 n1 n2 n3 n4 n5; clear hb hg_ hnew_ ho3)
    | (go_at_call 21; refine (Hu.huff_New_in A3 c3 [0, 1] [1] _ LC3.out (Hu.ordered_one [0, 1] [1] (by decide))).mono ?_; rintro e_ wn hnp; obtain ⟨hn1, _, hb⟩ := hnp; obtain ⟨gt, rfl, hcl, _, vt, htb, hts⟩ := hn1 (by decide +kernel); obtain ⟨At, ct, evt⟩ := Kd.R_slice hts; subst evt; have n0 := Aside0.mk (below_then HB.out HB.out.size hb); have n1 := Aside0.mk (Kd.R_below HC.out hb); have n2 := Aside0.mk (Kd.R_below HP.out hb); have n3 := Aside0.mk (blk_below BT.out hb); have n4 := Aside0.mk (htb); have n5 := Aside0.mk ((Kd.R_reads' hts).2.2); have n6 := Aside0.mk (hcl); clear HB HC HP BT; have HB := n0; have HC := n1; have HP := n2; have BT := n3; have TB := n4; have TC := n5; have HL := n6; clear n0 n1 n2 n3 n4 n5 n6; clear hb; clear hn1 hcl htb hts LC3 LE3)
    | ((with_reducible refine gate_dst (N := 31) rfl ?_); (try (refine gate_guard (by rfl) ?_; dsimp only)); refine Kd.R_lit (Kd.int .u8) _ 5 ?hg (N := 31) ?hd (xs := ([1] : List Int)) (inner := [.int .u8 1]) (ok := fun _ => True) (okp := fun _ => True) ?hr ?hp (fun _ hk => hk) trivial (Below.refl _ _) (Nat.le_refl _) (by simp) ?_; (case hd => rfl); (case hg => rfl); (case hr => first | (go_simp; done) | (go_simp; rfl)); (case hp => exact (Reps.one (show Kd.M (Kd.int .u8) _ _ _ 1 [.int .u8 1] from rfl) (Reps.none _ _))); intro v4 w4 ho4 hb hg_ hnew_; obtain ⟨A4, c4, ev4⟩ := Kd.R_slice ho4; subst ev4; have n0 := Aside0.mk (below_then HB.out HB.out.size hb); have n1 := Aside0.mk (Kd.R_below HC.out hb); have n2 := Aside0.mk (Kd.R_below HP.out hb); have n3 := Aside0.mk (blk_below BT.out hb); have n4 := Aside0.mk (blk_below TB.out hb); have n5 := Aside0.mk (Kd.C_below TC.out hb); have n6 := Aside0.mk ((Kd.R_reads' ho4).2.2); have n7 := Aside0.mk ((Kd.R_reads' ho4).2.1); clear HB HC HP BT TB TC; have HB := n0; have HC := n1; have HP := n2; have BT := n3; have TB := n4; have TC := n5; have LC4 := n6; have LE4 := n7; clear n0 n1 n2 n3 n4 n5 n6 n7; clear hb hg_ hnew_ ho4)
    | (have tk1 := LC4.out; clear tk1; go_at_call 23; refine (table_Read.calls 200 gt A4 c4 [1] 1 0 (Hu.countedS [0, 1]).1 [1] 0 0 13 _ LC4.out LE4.out ⟨HL.out, At, ct, TB.out, TC.out⟩ (by decide +kernel)).mono ?_; rintro e_ wr4 ⟨rfl, hb⟩; have n0 := Aside0.mk (below_then HB.out HB.out.size hb); have n1 := Aside0.mk (Kd.R_below HC.out hb); have n2 := Aside0.mk (Kd.R_below HP.out hb); have n3 := Aside0.mk (blk_below BT.out hb); have n4 := Aside0.mk (blk_below TB.out hb); have n5 := Aside0.mk (Kd.C_below TC.out hb); clear HB HC HP BT TB TC; have HB := n0; have HC := n1; have HP := n2; have BT := n3; have TB := n4; have TC := n5; clear n0 n1 n2 n3 n4 n5; clear hb; clear LC4 LE4)
    | ((with_reducible refine gate_dst (N := 39) rfl ?_); (try (refine gate_guard (by rfl) ?_; dsimp only)); refine Kd.R_lit (Kd.int .u8) _ 5 ?hg (N := 39) ?hd (xs := ([0] : List Int)) (inner := [.int .u8 0]) (ok := fun _ => True) (okp := fun _ => True) ?hr ?hp (fun _ hk => hk) trivial (Below.refl _ _) (Nat.le_refl _) (by simp) ?_; (case hd => rfl); (case hg => rfl); (case hr => first | (go_simp; done) | (go_simp; rfl)); (case hp => exact (Reps.one (show Kd.M (Kd.int .u8) _ _ _ 0 [.int .u8 0] from rfl) (Reps.none _ _))); intro v5 w5 ho5 hb hg_ hnew_; obtain ⟨A5, c5, ev5⟩ := Kd.R_slice ho5; subst ev5; have n0 := Aside0.mk (below_then HB.out HB.out.size hb); have n1 := Aside0.mk (Kd.R_below HC.out hb); have n2 := Aside0.mk (Kd.R_below HP.out hb); have n3 := Aside0.mk (blk_below BT.out hb); have n4 := Aside0.mk (blk_below TB.out hb); have n5 := Aside0.mk (Kd.C_below TC.out hb); have n6 := Aside0.mk ((Kd.R_reads' ho5).2.2); have n7 := Aside0.mk ((Kd.R_reads' ho5).2.1); clear HB HC HP BT TB TC; have HB := n0; have HC := n1; have HP := n2; have BT := n3; have TB := n4; have TC := n5; have LC5 := n6; have LE5 := n7; clear n0 n1 n2 n3 n4 n5 n6 n7; clear hb hg_ hnew_ ho5)
    | (have tk1 := LC5.out; clear tk1; go_at_call 23; refine (table_Read.calls 200 gt A5 c5 [0] 1 0 (Hu.countedS [0, 1]).1 [1] 1 1 0 _ LC5.out LE5.out ⟨HL.out, At, ct, TB.out, TC.out⟩ (by decide +kernel)).mono ?_; rintro e_ wr5 ⟨rfl, hb⟩; have n0 := Aside0.mk (below_then HB.out HB.out.size hb); have n1 := Aside0.mk (Kd.R_below HC.out hb); have n2 := Aside0.mk (Kd.R_below HP.out hb); have n3 := Aside0.mk (blk_below BT.out hb); have n4 := Aside0.mk (blk_below TB.out hb); have n5 := Aside0.mk (Kd.C_below TC.out hb); clear HB HC HP BT TB TC; have HB := n0; have HC := n1; have HP := n2; have BT := n3; have TB := n4; have TC := n5; clear n0 n1 n2 n3 n4 n5; clear hb; clear LC5 LE5)
    | ((with_reducible refine gate_dst (N := 46) rfl ?_); (try (refine gate_guard (by rfl) ?_; dsimp only)); refine Kd.R_lit (Kd.int .i64) _ 3 ?hg (N := 46) ?hd (xs := ([2, 0, 6, 7] : List Int)) (inner := [.int .i64 2, .int .i64 0, .int .i64 6, .int .i64 7]) (ok := fun _ => True) (okp := fun _ => True) ?hr ?hp (fun _ hk => hk) trivial (Below.refl _ _) (Nat.le_refl _) (by simp) ?_; (case hd => rfl); (case hg => rfl); (case hr => first | (go_simp; done) | (go_simp; rfl)); (case hp => exact (Reps.one (show Kd.M (Kd.int .i64) _ _ _ 2 [.int .i64 2] from rfl) (Reps.one (show Kd.M (Kd.int .i64) _ _ _ 0 [.int .i64 0] from rfl) (Reps.one (show Kd.M (Kd.int .i64) _ _ _ 6 [.int .i64 6] from rfl) (Reps.one (show Kd.M (Kd.int .i64) _ _ _ 7 [.int .i64 7] from rfl) (Reps.none _ _)))))); intro v6 w6 ho6 hb hg_ hnew_; obtain ⟨A6, c6, ev6⟩ := Kd.R_slice ho6; subst ev6; have n0 := Aside0.mk (below_then HB.out HB.out.size hb); have n1 := Aside0.mk (Kd.R_below HC.out hb); have n2 := Aside0.mk (Kd.R_below HP.out hb); have n3 := Aside0.mk (blk_below BT.out hb); have n4 := Aside0.mk (blk_below TB.out hb); have n5 := Aside0.mk (Kd.C_below TC.out hb); have n6 := Aside0.mk ((Kd.R_reads' ho6).2.2); have n7 := Aside0.mk ((Kd.R_reads' ho6).2.1); clear HB HC HP BT TB TC; have HB := n0; have HC := n1; have HP := n2; have BT := n3; have TB := n4; have TC := n5; have LC6 := n6; have LE6 := n7; clear n0 n1 n2 n3 n4 n5 n6 n7; clear hb hg_ hnew_ ho6)
    | (go_at_call 15; refine (valiseref04_Same.calls 200 Ac cc [2, 0, 6, 7] A6 c6 [2, 0, 6, 7] true _ (Kd.R_reads' HC.out).2.2 (Kd.R_reads' HC.out).2.1 LC6.out LE6.out (by decide +kernel)).mono ?_; rintro e_ ws ⟨rfl, hd⟩; have hb := hd.below; clear hd; have n0 := Aside0.mk (below_then HB.out HB.out.size hb); have n1 := Aside0.mk (Kd.R_below HC.out hb); have n2 := Aside0.mk (Kd.R_below HP.out hb); have n3 := Aside0.mk (blk_below BT.out hb); have n4 := Aside0.mk (blk_below TB.out hb); have n5 := Aside0.mk (Kd.C_below TC.out hb); clear HB HC HP BT TB TC; have HB := n0; have HC := n1; have HP := n2; have BT := n3; have TB := n4; have TC := n5; clear n0 n1 n2 n3 n4 n5; clear hb; clear LC6 LE6; have hct0 : ws.cell? ⟨gb, 0, none⟩ = some (.slice Ap ([3] : List Int).length cp) := (blk_cell BT.out 0).trans rfl; have hct1 : ws.cell? ⟨gb, 1, none⟩ = some (.int .i64 3) := (blk_cell BT.out 1).trans rfl)
    | ((with_reducible refine gate_dst (N := 54) rfl ?_); (try (refine gate_guard (by rfl) ?_; dsimp only)); refine Kd.R_lit (Kd.int .u8) _ 5 ?hg (N := 54) ?hd (xs := ([3] : List Int)) (inner := [.int .u8 3]) (ok := fun _ => True) (okp := fun _ => True) ?hr ?hp (fun _ hk => hk) trivial (Below.refl _ _) (Nat.le_refl _) (by simp) ?_; (case hd => rfl); (case hg => rfl); (case hr => first | (go_simp; done) | (go_simp; rfl)); (case hp => exact (Reps.one (show Kd.M (Kd.int .u8) _ _ _ 3 [.int .u8 3] from rfl) (Reps.none _ _))); intro v7 w7 ho7 hb hg_ hnew_; obtain ⟨A7, c7, ev7⟩ := Kd.R_slice ho7; subst ev7; have n0 := Aside0.mk (below_then HB.out HB.out.size hb); have n1 := Aside0.mk (Kd.R_below HC.out hb); have n2 := Aside0.mk (Kd.R_below HP.out hb); have n3 := Aside0.mk (blk_below BT.out hb); have n4 := Aside0.mk (blk_below TB.out hb); have n5 := Aside0.mk (Kd.C_below TC.out hb); have n6 := Aside0.mk ((Kd.R_reads' ho7).2.2); have n7 := Aside0.mk ((Kd.R_reads' ho7).2.1); clear HB HC HP BT TB TC; have HB := n0; have HC := n1; have HP := n2; have BT := n3; have TB := n4; have TC := n5; have LC7 := n6; have LE7 := n7; clear n0 n1 n2 n3 n4 n5 n6 n7; clear hb hg_ hnew_ ho7)
    | (go_at_call 20; refine (valiseref01_Same.calls Ap cp [3] 3 A7 c7 [3] 3 true _ (Kd.R_reads' HP.out).2.2 (Kd.R_reads' HP.out).2.1 LC7.out LE7.out (by decide +kernel)).mono ?_; rintro e_ wt ⟨rfl, hb⟩; have n0 := Aside0.mk (below_then HB.out HB.out.size hb); have n1 := Aside0.mk (Kd.R_below HC.out hb); have n2 := Aside0.mk (Kd.R_below HP.out hb); have n3 := Aside0.mk (blk_below BT.out hb); have n4 := Aside0.mk (blk_below TB.out hb); have n5 := Aside0.mk (Kd.C_below TC.out hb); clear HB HC HP BT TB TC; have HB := n0; have HC := n1; have HP := n2; have BT := n3; have TB := n4; have TC := n5; clear n0 n1 n2 n3 n4 n5; clear hb; clear LC7 LE7)
    | ((with_reducible refine gate_dst (N := 83) rfl ?_); (try (refine gate_guard (by rfl) ?_; dsimp only)); refine Kd.R_lit (Kd.int .i64) _ 3 ?hg (N := 83) ?hd (xs := ([1, 1, 1] : List Int)) (inner := [.int .i64 1, .int .i64 1, .int .i64 1]) (ok := fun _ => True) (okp := fun _ => True) ?hr ?hp (fun _ hk => hk) trivial (Below.refl _ _) (Nat.le_refl _) (by simp) ?_; (case hd => rfl); (case hg => rfl); (case hr => first | (go_simp; done) | (go_simp; rfl)); (case hp => exact (Reps.one (show Kd.M (Kd.int .i64) _ _ _ 1 [.int .i64 1] from rfl) (Reps.one (show Kd.M (Kd.int .i64) _ _ _ 1 [.int .i64 1] from rfl) (Reps.one (show Kd.M (Kd.int .i64) _ _ _ 1 [.int .i64 1] from rfl) (Reps.none _ _))))); intro v8 w8 ho8 hb hg_ hnew_; obtain ⟨A8, c8, ev8⟩ := Kd.R_slice ho8; subst ev8; have n0 := Aside0.mk (below_then HB.out HB.out.size hb); have n1 := Aside0.mk (Kd.R_below HC.out hb); have n2 := Aside0.mk (Kd.R_below HP.out hb); have n3 := Aside0.mk (blk_below BT.out hb); have n4 := Aside0.mk (blk_below TB.out hb); have n5 := Aside0.mk (Kd.C_below TC.out hb); have n6 := Aside0.mk ((Kd.R_reads' ho8).2.2); have n7 := Aside0.mk ((Kd.R_reads' ho8).2.1); clear HB HC HP BT TB TC; have HB := n0; have HC := n1; have HP := n2; have BT := n3; have TB := n4; have TC := n5; have LC8 := n6; have LE8 := n7; clear n0 n1 n2 n3 n4 n5 n6 n7; clear hb hg_ hnew_ ho8)
    | (go_at_call 13; refine (huff_Check.calls A8 c8 [1, 1, 1] 11 _ LC8.out LE8.out (by decide +kernel)).mono ?_; rintro e_ wu ⟨rfl, hb⟩; have n0 := Aside0.mk (below_then HB.out HB.out.size hb); have n1 := Aside0.mk (Kd.R_below HC.out hb); have n2 := Aside0.mk (Kd.R_below HP.out hb); have n3 := Aside0.mk (blk_below BT.out hb); have n4 := Aside0.mk (blk_below TB.out hb); have n5 := Aside0.mk (Kd.C_below TC.out hb); clear HB HC HP BT TB TC; have HB := n0; have HC := n1; have HP := n2; have BT := n3; have TB := n4; have TC := n5; clear n0 n1 n2 n3 n4 n5; clear hb; clear LC8 LE8)
    )
  go_ret
  exact ⟨rfl, HB.out⟩
end

end Go.Proofs.Ythcndpdfcippiaa.Pr

-- YthcndpdfcippiaaPr2
namespace Go.Proofs.Ythcndpdfcippiaa.Pr
open Go.RowKit Go.Proofs.YthcndpdfcippiaaW.PrintWords Go.Proofs.YthcndpdfcippiaaW.PrintLast Go.Proofs.YthcndpdfcippiaaW.PrintMore
attribute [local go_sem] max2_int min2_int max_two min_two max_three min_three max_four min_four   -- for this text's walks alone
set_option linter.unusedVariables false
set_option linter.unusedSimpArgs false

/-! ### valiseref04_Lengths: function 28 -/
mutual
def valiseref04_Lengths.j0 : Nat → List Int → Bool → Option (Bool)
  | 0, _, _ => none
  | k + 1, x0, x11 => if x11 = true then (some false) else (valiseref04_Lengths.l0 k x0 0)
def valiseref04_Lengths.l0 : Nat → List Int → Int → Option (Bool)
  | 0, _, _ => none
  | k + 1, x0, x3 => if x3 < (x0.length : Int) then (if 0 ≤ x3 then (if (rd x0 x3) < 0 then (some false) else (if (rd x0 x3) > 15 then (some false) else (valiseref04_Lengths.l0 k x0 (wrap64 (x3 + 1))))) else (none)) else (some true)
end
def valiseref04_Lengths.f (k : Nat) (l0 : List Int) : Option (Bool) := if (l0.length : Int) = 0 then (valiseref04_Lengths.j0 k l0 true) else (valiseref04_Lengths.j0 k l0 (decide ((l0.length : Int) > 288)))
theorem valiseref04_Lengths.mono_l : ∀ k, (∀ y0 y1, LeO (valiseref04_Lengths.j0 k y0 y1) (valiseref04_Lengths.j0 (k + 1) y0 y1)) ∧ (∀ y0 y1, LeO (valiseref04_Lengths.l0 k y0 y1) (valiseref04_Lengths.l0 (k + 1) y0 y1))
  | 0 => ⟨fun _ _ r h => by simp [valiseref04_Lengths.j0] at h, fun _ _ r h => by simp [valiseref04_Lengths.l0] at h⟩
  | k + 1 => by
    obtain ⟨ih0, ih1⟩ := valiseref04_Lengths.mono_l k
    refine ⟨?_, ?_⟩
    · intro y0 y1
      unfold valiseref04_Lengths.j0
      repeat' first
      | (with_reducible exact ih0 _ _)
      | (with_reducible exact ih1 _ _)
      | (with_reducible exact LeO.refl _)
      | (with_reducible exact LeO.none _)
      | (with_reducible refine LeO.ite ?_ ?_)
      | (with_reducible refine LeO.bind ?_ (fun _ => ?_))
      | exact ih0 _ _
      | exact ih1 _ _
      | exact LeO.none _
      | refine LeO.ite ?_ ?_
      | refine LeO.bind ?_ (fun _ => ?_)
    · intro y0 y1
      unfold valiseref04_Lengths.l0
      repeat' first
      | (with_reducible exact ih0 _ _)
      | (with_reducible exact ih1 _ _)
      | (with_reducible exact LeO.refl _)
      | (with_reducible exact LeO.none _)
      | (with_reducible refine LeO.ite ?_ ?_)
      | (with_reducible refine LeO.bind ?_ (fun _ => ?_))
      | exact ih0 _ _
      | exact ih1 _ _
      | exact LeO.none _
      | refine LeO.ite ?_ ?_
      | refine LeO.bind ?_ (fun _ => ?_)
theorem valiseref04_Lengths.mono : ∀ a0 k, LeO (valiseref04_Lengths.f k a0) (valiseref04_Lengths.f (k + 1) a0) := by
  intro a0 k
  obtain ⟨ih0, ih1⟩ := valiseref04_Lengths.mono_l k
  unfold valiseref04_Lengths.f
  repeat' first
      | (with_reducible exact ih0 _ _)
      | (with_reducible exact ih1 _ _)
      | (with_reducible exact LeO.refl _)
      | (with_reducible exact LeO.none _)
      | (with_reducible refine LeO.ite ?_ ?_)
      | (with_reducible refine LeO.bind ?_ (fun _ => ?_))
      | exact ih0 _ _
      | exact ih1 _ _
      | exact LeO.none _
      | refine LeO.ite ?_ ?_
      | refine LeO.bind ?_ (fun _ => ?_)
set_option maxHeartbeats 8000000 in
set_option maxRecDepth 100000 in
theorem valiseref04_Lengths.calls (k : Nat) (A0 : Option Addr) (c0 : Nat) (l0 : List Int) (r : Bool) (w : World) (hr0 : Kd.C (Kd.int .i64) w A0 l0.length l0) (hc0 : l0.length ≤ c0) (h : valiseref04_Lengths.f k l0 = some r) :
    Calls Try.prog 28 #[.slice A0 l0.length c0] w fun e w' => e = .returned (.bool r) ∧ Drawn0 w w' := by
  have HR0 := Aside0.mk hr0
  have HC0 := Aside0.mk hc0
  clear hr0 hc0
  have H : (if (l0.length : Int) = 0 then (valiseref04_Lengths.j0 k l0 true) else (valiseref04_Lengths.j0 k l0 (decide ((l0.length : Int) > 288)))) = some r := h
  clear h
  have HC2 := Aside0.mk H
  clear H
  go_enter Try.func28, Try.ntmps28
  go_upto_region 1 with (fail)
  go_cut [11] (fun v11 wc => ∃ (kq : Nat) (x11_1 : Bool), v11 = .bool x11_1 ∧ Aside0 (valiseref04_Lengths.j0 kq l0 x11_1 = some r) ∧ Aside0 (kq ≤ k) ∧ Drawn0 w wc)
  case first =>
    have H := HC2.out
    clear HC2
    by_cases c3 : (l0.length : Int) = 0
    · rw [if_pos c3] at H
      have c3b0 : ((l0.length : Int) == 0) = true := beq_iff_eq.mpr c3
      have c3b1 : ((l0.length : Int) != 0) = false := bne_eq_false_iff_eq.mpr c3
      clear c3
      (first | rw [c3b0] | (simp only [i64_w, i32_w, u8_w]; rw [c3b0]) | skip)
      have H' := Aside0.mk H
      clear H
      go_wp2
      go_meet
      case rel => exact ⟨_, (true), (by first | rfl | (simp; done) | (simp [*]; done)), H', ⟨by first | omega | exact Nat.le_refl _⟩, by repeat (first | exact Drawn0.refl _ | apply Drawn0.step)⟩
    · rw [if_neg c3] at H
      have c3b0 : ((l0.length : Int) == 0) = false := beq_eq_false_iff_ne.mpr c3
      have c3b1 : ((l0.length : Int) != 0) = true := bne_iff_ne.mpr c3
      have c3b2 : ¬ (l0 = []) := fun h_ => c3 (by rw [h_]; rfl)
      (first | rw [c3b0] | (simp only [i64_w, i32_w, u8_w]; rw [c3b0]) | skip)
      have H' := Aside0.mk H
      clear H
      go_wp2
      go_meet
      case rel => exact ⟨_, (decide ((l0.length : Int) > 288)), (by first | rfl | (simp; done) | (simp [*]; done)), H', ⟨by first | omega | exact Nat.le_refl _⟩, by repeat (first | exact Drawn0.refl _ | apply Drawn0.step)⟩
  case rest =>
    clear HC2
    try clear c2
    try clear p2
    try clear c3
    try clear c3b0
    try clear c3b1
    try clear c3b2
    obtain ⟨kq, x11_1, rfl, HA, HJ1, ⟨mc1, rfl⟩⟩ := hcut
    cases kq with
    | zero => exact absurd HA.out (by simp [valiseref04_Lengths.j0])
    | succ kj1 =>
      have H := HA.out
      clear HA
      simp only [valiseref04_Lengths.j0] at H
      by_cases c4 : x11_1 = true
      · subst c4
        have H1 : (some false) = some r := by rw [if_pos rfl] at H; exact H
        clear H
        have H := H1
        clear H1
        obtain rfl := Option.some.inj H
        go_wp2
        go_ret
        exact ⟨by first | rfl | (simp; done) | (simp [*]; done), by repeat (first | exact Drawn0.refl _ | apply Drawn0.step)⟩
      · replace c4 := Bool.eq_false_iff.mpr c4
        subst c4
        have H1 : (valiseref04_Lengths.l0 kj1 l0 0) = some r := by rw [if_neg (show ¬ (false = true) by decide)] at H; exact H
        clear H
        have H := H1
        clear H1
        have H' := Aside0.mk H
        clear H
        go_wp2
        go_loopg [3] kj1 (fun kq v3 w' => ∃ (x3_2 : Int), v3 = .int .i64 x3_2 ∧ Aside0 (valiseref04_Lengths.l0 kq l0 x3_2 = some r) ∧ Aside0 (kq ≤ kj1) ∧ Drawn0 w w')
        case atStart => exact ⟨(0), (by first | rfl | (simp; done) | (simp [*]; done)), H', ⟨Nat.le_refl _⟩, by repeat (first | exact Drawn0.refl _ | apply Drawn0.step)⟩
        case round =>
          clear H'
          try clear c1
          try clear c2
          try clear p2
          try clear c3
          try clear c3b0
          try clear c3b1
          try clear c3b2
          try clear c4
          try clear p2
          obtain ⟨x3_2, rfl, HA, HK2, ⟨m2, rfl⟩⟩ := hrel
          cases gk with
          | zero => exact absurd HA.out (by simp [valiseref04_Lengths.l0])
          | succ k2 =>
            have H := HA.out
            clear HA
            simp only [valiseref04_Lengths.l0] at H
            by_cases c5 : x3_2 < (l0.length : Int)
            · rw [if_pos c5] at H
              have c5b0 : decide (x3_2 < (l0.length : Int)) = true := decide_eq_true c5
              clear c5
              by_cases c6 : 0 ≤ x3_2
              · rw [if_pos c6] at H
                have c6b0 : decide (0 ≤ x3_2) = true := decide_eq_true c6
                clear c6
                by_cases c7 : (rd l0 x3_2) < 0
                · rw [if_pos c7] at H
                  have c7b0 : decide ((rd l0 x3_2) < 0) = true := decide_eq_true c7
                  clear c7
                  obtain rfl := Option.some.inj H
                  have p107 : 0 ≤ (x3_2 : Int) := of_decide_eq_true (by first | (with_reducible assumption) | assumption)
                  have q107 : x3_2 < (l0.length : Int) := of_decide_eq_true (by first | (with_reducible assumption) | assumption)
                  obtain ⟨ad107, e107, hx107_0⟩ := Kd.at_int HR0.out x3_2 p107 q107
                  cases e107
                  replace p107 := eq_true p107
                  replace q107 := eq_true q107
                  go_wp2
                  go_ret
                  exact ⟨by first | rfl | (simp; done) | (simp [*]; done), by repeat (first | exact Drawn0.refl _ | apply Drawn0.step)⟩
                · rw [if_neg c7] at H
                  have c7b0 : decide ((rd l0 x3_2) < 0) = false := decide_eq_false c7
                  clear c7
                  by_cases c8 : (rd l0 x3_2) > 15
                  · rw [if_pos c8] at H
                    have c8b0 : decide (15 < (rd l0 x3_2)) = true := decide_eq_true c8
                    clear c8
                    obtain rfl := Option.some.inj H
                    have p107 : 0 ≤ (x3_2 : Int) := of_decide_eq_true (by first | (with_reducible assumption) | assumption)
                    have q107 : x3_2 < (l0.length : Int) := of_decide_eq_true (by first | (with_reducible assumption) | assumption)
                    obtain ⟨ad107, e107, hx107_0⟩ := Kd.at_int HR0.out x3_2 p107 q107
                    cases e107
                    replace p107 := eq_true p107
                    replace q107 := eq_true q107
                    have p108 : 0 ≤ (x3_2 : Int) := of_decide_eq_true (by first | (with_reducible assumption) | assumption)
                    have q108 : x3_2 < (l0.length : Int) := of_decide_eq_true (by first | (with_reducible assumption) | assumption)
                    obtain ⟨ad108, e108, hx108_0⟩ := Kd.at_int HR0.out x3_2 p108 q108
                    obtain rfl : ad107 = ad108 := (by injection e108)
                    replace p108 := eq_true p108
                    replace q108 := eq_true q108
                    go_wp2
                    go_ret
                    exact ⟨by first | rfl | (simp; done) | (simp [*]; done), by repeat (first | exact Drawn0.refl _ | apply Drawn0.step)⟩
                  · rw [if_neg c8] at H
                    have c8b0 : decide (15 < (rd l0 x3_2)) = false := decide_eq_false c8
                    clear c8
                    have H' := Aside0.mk H
                    clear H
                    have p107 : 0 ≤ (x3_2 : Int) := of_decide_eq_true (by first | (with_reducible assumption) | assumption)
                    have q107 : x3_2 < (l0.length : Int) := of_decide_eq_true (by first | (with_reducible assumption) | assumption)
                    obtain ⟨ad107, e107, hx107_0⟩ := Kd.at_int HR0.out x3_2 p107 q107
                    cases e107
                    replace p107 := eq_true p107
                    replace q107 := eq_true q107
                    have p108 : 0 ≤ (x3_2 : Int) := of_decide_eq_true (by first | (with_reducible assumption) | assumption)
                    have q108 : x3_2 < (l0.length : Int) := of_decide_eq_true (by first | (with_reducible assumption) | assumption)
                    obtain ⟨ad108, e108, hx108_0⟩ := Kd.at_int HR0.out x3_2 p108 q108
                    obtain rfl : ad107 = ad108 := (by injection e108)
                    replace p108 := eq_true p108
                    replace q108 := eq_true q108
                    go_wp2
                    go_roundg k2
                    case measure => have := HJ1.out; have := HK2.out; omega
                    case rel => exact ⟨(wrap64 (x3_2 + 1)), (by first | rfl | (simp; done) | (simp [*]; done)), H', ⟨by have := HJ1.out; have := HK2.out; omega⟩, by repeat (first | exact Drawn0.refl _ | apply Drawn0.step)⟩
              · rw [if_neg c6] at H
                exact absurd H (by simp)
            · rw [if_neg c5] at H
              have c5b0 : decide (x3_2 < (l0.length : Int)) = false := decide_eq_false c5
              clear c5
              obtain rfl := Option.some.inj H
              go_wp2
              go_ret
              exact ⟨by first | rfl | (simp; done) | (simp [*]; done), by repeat (first | exact Drawn0.refl _ | apply Drawn0.step)⟩

end Go.Proofs.Ythcndpdfcippiaa.Pr

-- YthcndpdfcippiaaPr3
namespace Go.Proofs.Ythcndpdfcippiaa.Pr
open Go.RowKit Go.Proofs.YthcndpdfcippiaaW.PrintWords Go.Proofs.YthcndpdfcippiaaW.PrintLast Go.Proofs.YthcndpdfcippiaaW.PrintMore
attribute [local go_sem] max2_int min2_int max_two min_two max_three min_three max_four min_four   -- for this text's walks alone
set_option linter.unusedVariables false
set_option linter.unusedSimpArgs false

/-! ### valiseref04_Takes: function 29 -/
def valiseref04_Takes.l0 : Nat → List Int → Int → Int → Option (Int)
  | 0, _, _, _ => none
  | k + 1, x0, x3, x4 => if x4 < (x0.length : Int) then (if 0 ≤ x4 then (if (rd x0 x4) > 0 then (if 0 ≤ (wrap64 (15 - (rd x0 x4))) then (valiseref04_Takes.l0 k x0 (wrap64 (x3 + (shl .i64 1 (wrap64 (15 - (rd x0 x4)))))) (wrap64 (x4 + 1))) else (none)) else (valiseref04_Takes.l0 k x0 x3 (wrap64 (x4 + 1)))) else (none)) else (some x3)
def valiseref04_Takes.f (k : Nat) (l0 : List Int) : Option (Int) := valiseref04_Takes.l0 k l0 0 0
theorem valiseref04_Takes.mono_l : ∀ k, (∀ y0 y1 y2, LeO (valiseref04_Takes.l0 k y0 y1 y2) (valiseref04_Takes.l0 (k + 1) y0 y1 y2))
  | 0 => fun _ _ _ r h => by simp [valiseref04_Takes.l0] at h
  | k + 1 => by
    have ih0 := valiseref04_Takes.mono_l k
    · intro y0 y1 y2
      unfold valiseref04_Takes.l0
      repeat' first
      | (with_reducible exact ih0 _ _ _)
      | (with_reducible exact LeO.refl _)
      | (with_reducible exact LeO.none _)
      | (with_reducible refine LeO.ite ?_ ?_)
      | (with_reducible refine LeO.bind ?_ (fun _ => ?_))
      | exact ih0 _ _ _
      | exact LeO.none _
      | refine LeO.ite ?_ ?_
      | refine LeO.bind ?_ (fun _ => ?_)
theorem valiseref04_Takes.mono : ∀ a0 k, LeO (valiseref04_Takes.f k a0) (valiseref04_Takes.f (k + 1) a0) := by
  intro a0 k
  have ih0 := valiseref04_Takes.mono_l k
  unfold valiseref04_Takes.f
  repeat' first
      | (with_reducible exact ih0 _ _ _)
      | (with_reducible exact LeO.refl _)
      | (with_reducible exact LeO.none _)
      | (with_reducible refine LeO.ite ?_ ?_)
      | (with_reducible refine LeO.bind ?_ (fun _ => ?_))
      | exact ih0 _ _ _
      | exact LeO.none _
      | refine LeO.ite ?_ ?_
      | refine LeO.bind ?_ (fun _ => ?_)
set_option maxHeartbeats 8000000 in
set_option maxRecDepth 100000 in
theorem valiseref04_Takes.calls (k : Nat) (A0 : Option Addr) (c0 : Nat) (l0 : List Int) (r : Int) (w : World) (hr0 : Kd.C (Kd.int .i64) w A0 l0.length l0) (hc0 : l0.length ≤ c0) (h : valiseref04_Takes.f k l0 = some r) :
    Calls Try.prog 29 #[.slice A0 l0.length c0] w fun e w' => e = .returned (.int .i64 r) ∧ Drawn0 w w' := by
  have HR0 := Aside0.mk hr0
  have HC0 := Aside0.mk hc0
  clear hr0 hc0
  have H : (valiseref04_Takes.l0 k l0 0 0) = some r := h
  clear h
  have H' := Aside0.mk H
  clear H
  go_enter Try.func29, Try.ntmps29
  go_wp2
  go_loopg [3, 4] k (fun kq v3 v4 w' => ∃ (x3_1 : Int) (x4_1 : Int), v3 = .int .i64 x3_1 ∧ v4 = .int .i64 x4_1 ∧ Aside0 (valiseref04_Takes.l0 kq l0 x3_1 x4_1 = some r) ∧ Aside0 (kq ≤ k) ∧ Drawn0 w w')
  case atStart => exact ⟨(0), (0), (by first | rfl | (simp; done) | (simp [*]; done)), (by first | rfl | (simp; done) | (simp [*]; done)), H', ⟨Nat.le_refl _⟩, by repeat (first | exact Drawn0.refl _ | apply Drawn0.step)⟩
  case round =>
    clear H'
    obtain ⟨x3_1, x4_1, rfl, rfl, HA, HK1, ⟨m1, rfl⟩⟩ := hrel
    cases gk with
    | zero => exact absurd HA.out (by simp [valiseref04_Takes.l0])
    | succ k1 =>
      have H := HA.out
      clear HA
      simp only [valiseref04_Takes.l0] at H
      by_cases c2 : x4_1 < (l0.length : Int)
      · rw [if_pos c2] at H
        have c2b0 : decide (x4_1 < (l0.length : Int)) = true := decide_eq_true c2
        clear c2
        by_cases c3 : 0 ≤ x4_1
        · rw [if_pos c3] at H
          have c3b0 : decide (0 ≤ x4_1) = true := decide_eq_true c3
          clear c3
          by_cases c4 : (rd l0 x4_1) > 0
          · rw [if_pos c4] at H
            have c4b0 : decide (0 < (rd l0 x4_1)) = true := decide_eq_true c4
            clear c4
            obtain ⟨ji5, hji5⟩ : ∃ j_ : Int, (wrap64 (15 - (rd l0 x4_1))) = j_ := ⟨_, rfl⟩
            replace H : (if 0 ≤ (ji5) then (valiseref04_Takes.l0 k1 l0 (wrap64 (x3_1 + (shl .i64 1 (ji5)))) (wrap64 (x4_1 + 1))) else (none)) = some r := by first | (rw [hji5] at H; exact H) | (simp only [hji5] at H ⊢; exact H)
            have hji5w : (IntKind.i64.wrap (15 - (rd l0 x4_1))) = ji5 := (i64_w _).trans hji5
            by_cases c6 : 0 ≤ (ji5)
            · rw [if_pos c6] at H
              have c6b0 := eq_true c6
              have c6b1 : decide (0 ≤ (ji5)) = true := decide_eq_true c6
              clear c6
              obtain ⟨ji7, hji7⟩ : ∃ j_ : Int, (shl .i64 1 (ji5)) = j_ := ⟨_, rfl⟩
              replace H : (valiseref04_Takes.l0 k1 l0 (wrap64 (x3_1 + (ji7))) (wrap64 (x4_1 + 1))) = some r := by first | (rw [hji7] at H; exact H) | (simp only [hji7] at H ⊢; exact H)
              have hji7_ : (IntKind.i64.wrap (1 * 2 ^ min (ji5).toNat 64)) = ji7 := hji7
              have hji7z : (ji5) ≤ 64 → (IntKind.i64.wrap (1 * 2 ^ (ji5).toNat)) = ji7 := shl_small hji7
              have hji7u : (IntKind.i64.wrap (2 ^ min (ji5).toNat 64)) = ji7 := by have h_ := hji7_; rw [Int.one_mul] at h_; exact h_
              have hji7v : (ji5) ≤ 64 → (IntKind.i64.wrap (2 ^ (ji5).toNat)) = ji7 := fun hle_ => by have h_ := hji7z hle_; rw [Int.one_mul] at h_; exact h_
              have hji7y : (wrap64 (1 * 2 ^ min (ji5).toNat 64)) = ji7 := (i64_w _).symm.trans hji7_
              have hji7x : (ji5) ≤ 64 → (wrap64 (1 * 2 ^ (ji5).toNat)) = ji7 := fun h_ => (i64_w _).symm.trans (hji7z h_)
              have H' := Aside0.mk H
              clear H
              have p109 : 0 ≤ (x4_1 : Int) := of_decide_eq_true (by first | (with_reducible assumption) | assumption)
              have q109 : x4_1 < (l0.length : Int) := of_decide_eq_true (by first | (with_reducible assumption) | assumption)
              obtain ⟨ad109, e109, hx109_0⟩ := Kd.at_int HR0.out x4_1 p109 q109
              cases e109
              replace p109 := eq_true p109
              replace q109 := eq_true q109
              have p110 : 0 ≤ (x4_1 : Int) := of_decide_eq_true (by first | (with_reducible assumption) | assumption)
              have q110 : x4_1 < (l0.length : Int) := of_decide_eq_true (by first | (with_reducible assumption) | assumption)
              obtain ⟨ad110, e110, hx110_0⟩ := Kd.at_int HR0.out x4_1 p110 q110
              obtain rfl : ad109 = ad110 := (by injection e110)
              replace p110 := eq_true p110
              replace q110 := eq_true q110
              go_wp2
              go_roundg k1
              case measure => have := HK1.out; omega
              case rel => exact ⟨(wrap64 (x3_1 + (ji7))), (wrap64 (x4_1 + 1)), (by first | rfl | (simp; done) | (simp only [← hji7] <;> (first | rfl | simp)) | (simp [*]; done)), (by first | rfl | (simp; done) | (simp [*]; done)), H', ⟨by have := HK1.out; omega⟩, by repeat (first | exact Drawn0.refl _ | apply Drawn0.step)⟩
            · rw [if_neg c6] at H
              exact absurd H (by simp)
          · rw [if_neg c4] at H
            have c4b0 : decide (0 < (rd l0 x4_1)) = false := decide_eq_false c4
            clear c4
            have H' := Aside0.mk H
            clear H
            have p109 : 0 ≤ (x4_1 : Int) := of_decide_eq_true (by first | (with_reducible assumption) | assumption)
            have q109 : x4_1 < (l0.length : Int) := of_decide_eq_true (by first | (with_reducible assumption) | assumption)
            obtain ⟨ad109, e109, hx109_0⟩ := Kd.at_int HR0.out x4_1 p109 q109
            cases e109
            replace p109 := eq_true p109
            replace q109 := eq_true q109
            go_wp2
            go_roundg k1
            case measure => have := HK1.out; omega
            case rel => exact ⟨(x3_1), (wrap64 (x4_1 + 1)), (by first | rfl | (simp; done) | (simp [*]; done)), (by first | rfl | (simp; done) | (simp [*]; done)), H', ⟨by have := HK1.out; omega⟩, by repeat (first | exact Drawn0.refl _ | apply Drawn0.step)⟩
        · rw [if_neg c3] at H
          exact absurd H (by simp)
      · rw [if_neg c2] at H
        have c2b0 : decide (x4_1 < (l0.length : Int)) = false := decide_eq_false c2
        clear c2
        obtain rfl := Option.some.inj H
        go_wp2
        go_ret
        exact ⟨by first | rfl | (simp; done) | (simp [*]; done), by repeat (first | exact Drawn0.refl _ | apply Drawn0.step)⟩

end Go.Proofs.Ythcndpdfcippiaa.Pr

-- YthcndpdfcippiaaPr4
namespace Go.Proofs.Ythcndpdfcippiaa.Pr
open Go.RowKit Go.Proofs.YthcndpdfcippiaaW.PrintWords Go.Proofs.YthcndpdfcippiaaW.PrintLast Go.Proofs.YthcndpdfcippiaaW.PrintMore
attribute [local go_sem] max2_int min2_int max_two min_two max_three min_three max_four min_four   -- for this text's walks alone
set_option linter.unusedVariables false
set_option linter.unusedSimpArgs false

/-! ### valiseref04_Check: function 14 -/
def valiseref04_Check.f (k : Nat) (l0 : List Int) : Option (Int) := (valiseref04_Lengths.f k l0).bind fun t111 => (if t111 = true then ((valiseref04_Takes.f k l0).bind fun t112 => (if t112 > 32768 then (some 11) else (if t112 < 32768 then (some 12) else (some 0)))) else (some 2))
theorem valiseref04_Check.mono : ∀ a0 k, LeO (valiseref04_Check.f k a0) (valiseref04_Check.f (k + 1) a0) := by
  intro a0 k
  unfold valiseref04_Check.f
  repeat' first
      | (with_reducible exact valiseref04_Lengths.mono _ _)
      | (with_reducible exact valiseref04_Takes.mono _ _)
      | (with_reducible exact LeO.refl _)
      | (with_reducible exact LeO.none _)
      | (with_reducible refine LeO.ite ?_ ?_)
      | (with_reducible refine LeO.bind ?_ (fun _ => ?_))
      | exact valiseref04_Lengths.mono _ _
      | exact valiseref04_Takes.mono _ _
      | exact LeO.none _
      | refine LeO.ite ?_ ?_
      | refine LeO.bind ?_ (fun _ => ?_)
set_option maxHeartbeats 8000000 in
set_option maxRecDepth 100000 in
theorem valiseref04_Check.calls (k : Nat) (A0 : Option Addr) (c0 : Nat) (l0 : List Int) (r : Int) (w : World) (hr0 : Kd.C (Kd.int .i64) w A0 l0.length l0) (hc0 : l0.length ≤ c0) (h : valiseref04_Check.f k l0 = some r) :
    Calls Try.prog 14 #[.slice A0 l0.length c0] w fun e w' => e = .returned (.int .i64 r) ∧ Drawn0 w w' := by
  have HR0 := Aside0.mk hr0
  have HC0 := Aside0.mk hc0
  clear hr0 hc0
  have H : ((valiseref04_Lengths.f k l0).bind fun t111 => (if t111 = true then ((valiseref04_Takes.f k l0).bind fun t112 => (if t112 > 32768 then (some 11) else (if t112 < 32768 then (some 12) else (some 0)))) else (some 2))) = some r := h
  clear h
  replace H := Option.bind_eq_some_iff.mp H
  obtain ⟨t111, A20, H⟩ := H
  replace H : (if t111 = true then ((valiseref04_Takes.f k l0).bind fun t112 => (if t112 > 32768 then (some 11) else (if t112 < 32768 then (some 12) else (some 0)))) else (some 2)) = some r := H
  have A2 := Aside0.mk A20
  clear A20
  by_cases c3 : t111 = true
  · subst c3
    have H1 : ((valiseref04_Takes.f k l0).bind fun t112 => (if t112 > 32768 then (some 11) else (if t112 < 32768 then (some 12) else (some 0)))) = some r := by rw [if_pos rfl] at H; exact H
    clear H
    have H := H1
    clear H1
    replace H := Option.bind_eq_some_iff.mp H
    obtain ⟨t112, A40, H⟩ := H
    replace H : (if t112 > 32768 then (some 11) else (if t112 < 32768 then (some 12) else (some 0))) = some r := H
    have A4 := Aside0.mk A40
    clear A40
    by_cases c5 : t112 > 32768
    · rw [if_pos c5] at H
      have c5b0 : decide (32768 < t112) = true := decide_eq_true c5
      clear c5
      obtain rfl := Option.some.inj H
      go_enter Try.func14, Try.ntmps14
      go_wp2_with (first | ((with_reducible refine gate_callee (f := 28) rfl ?_); refine goesL_ (some 5) rfl rfl Try.func28 (by kernel_rfl) rfl #[.slice A0 l0.length c0] rfl (by (try simp only [List.map_toArray, List.map_cons, List.map_nil]); first | done | rfl | (simp only [List.length_drop, List.length_take]; rfl)) ?_; (with_reducible refine (valiseref04_Lengths.calls k _ _ l0 true _ ?side1 ?side2 A2.out).mono ?_); (case side1 => repeat (first | exact HR0.out | (with_reducible refine Kd.C_alloc ?_ _) | (with_reducible refine Kd.C_drewN ?_ _) | (with_reducible refine Kd.C_drew ?_))); (case side2 => exact HC0.out); rintro e w' ⟨rfl, ⟨nd, rfl⟩⟩; refine ⟨_, rfl, ?_⟩) | ((with_reducible refine gate_callee (f := 29) rfl ?_); refine goesL_ (some 8) rfl rfl Try.func29 (by kernel_rfl) rfl #[.slice A0 l0.length c0] rfl (by (try simp only [List.map_toArray, List.map_cons, List.map_nil]); first | done | rfl | (simp only [List.length_drop, List.length_take]; rfl)) ?_; (with_reducible refine (valiseref04_Takes.calls k _ _ l0 t112 _ ?side1 ?side2 A4.out).mono ?_); (case side1 => repeat (first | exact HR0.out | (with_reducible refine Kd.C_alloc ?_ _) | (with_reducible refine Kd.C_drewN ?_ _) | (with_reducible refine Kd.C_drew ?_))); (case side2 => exact HC0.out); rintro e w' ⟨rfl, ⟨nd, rfl⟩⟩; refine ⟨_, rfl, ?_⟩))
      go_ret
      exact ⟨by first | rfl | (simp; done) | (simp [*]; done), by repeat (first | exact Drawn0.refl _ | apply Drawn0.step)⟩
    · rw [if_neg c5] at H
      have c5b0 : decide (32768 < t112) = false := decide_eq_false c5
      clear c5
      by_cases c6 : t112 < 32768
      · rw [if_pos c6] at H
        have c6b0 : decide (t112 < 32768) = true := decide_eq_true c6
        clear c6
        obtain rfl := Option.some.inj H
        go_enter Try.func14, Try.ntmps14
        go_wp2_with (first | ((with_reducible refine gate_callee (f := 28) rfl ?_); refine goesL_ (some 5) rfl rfl Try.func28 (by kernel_rfl) rfl #[.slice A0 l0.length c0] rfl (by (try simp only [List.map_toArray, List.map_cons, List.map_nil]); first | done | rfl | (simp only [List.length_drop, List.length_take]; rfl)) ?_; (with_reducible refine (valiseref04_Lengths.calls k _ _ l0 true _ ?side1 ?side2 A2.out).mono ?_); (case side1 => repeat (first | exact HR0.out | (with_reducible refine Kd.C_alloc ?_ _) | (with_reducible refine Kd.C_drewN ?_ _) | (with_reducible refine Kd.C_drew ?_))); (case side2 => exact HC0.out); rintro e w' ⟨rfl, ⟨nd, rfl⟩⟩; refine ⟨_, rfl, ?_⟩) | ((with_reducible refine gate_callee (f := 29) rfl ?_); refine goesL_ (some 8) rfl rfl Try.func29 (by kernel_rfl) rfl #[.slice A0 l0.length c0] rfl (by (try simp only [List.map_toArray, List.map_cons, List.map_nil]); first | done | rfl | (simp only [List.length_drop, List.length_take]; rfl)) ?_; (with_reducible refine (valiseref04_Takes.calls k _ _ l0 t112 _ ?side1 ?side2 A4.out).mono ?_); (case side1 => repeat (first | exact HR0.out | (with_reducible refine Kd.C_alloc ?_ _) | (with_reducible refine Kd.C_drewN ?_ _) | (with_reducible refine Kd.C_drew ?_))); (case side2 => exact HC0.out); rintro e w' ⟨rfl, ⟨nd, rfl⟩⟩; refine ⟨_, rfl, ?_⟩))
        go_ret
        exact ⟨by first | rfl | (simp; done) | (simp [*]; done), by repeat (first | exact Drawn0.refl _ | apply Drawn0.step)⟩
      · rw [if_neg c6] at H
        have c6b0 : decide (t112 < 32768) = false := decide_eq_false c6
        clear c6
        obtain rfl := Option.some.inj H
        go_enter Try.func14, Try.ntmps14
        go_wp2_with (first | ((with_reducible refine gate_callee (f := 28) rfl ?_); refine goesL_ (some 5) rfl rfl Try.func28 (by kernel_rfl) rfl #[.slice A0 l0.length c0] rfl (by (try simp only [List.map_toArray, List.map_cons, List.map_nil]); first | done | rfl | (simp only [List.length_drop, List.length_take]; rfl)) ?_; (with_reducible refine (valiseref04_Lengths.calls k _ _ l0 true _ ?side1 ?side2 A2.out).mono ?_); (case side1 => repeat (first | exact HR0.out | (with_reducible refine Kd.C_alloc ?_ _) | (with_reducible refine Kd.C_drewN ?_ _) | (with_reducible refine Kd.C_drew ?_))); (case side2 => exact HC0.out); rintro e w' ⟨rfl, ⟨nd, rfl⟩⟩; refine ⟨_, rfl, ?_⟩) | ((with_reducible refine gate_callee (f := 29) rfl ?_); refine goesL_ (some 8) rfl rfl Try.func29 (by kernel_rfl) rfl #[.slice A0 l0.length c0] rfl (by (try simp only [List.map_toArray, List.map_cons, List.map_nil]); first | done | rfl | (simp only [List.length_drop, List.length_take]; rfl)) ?_; (with_reducible refine (valiseref04_Takes.calls k _ _ l0 t112 _ ?side1 ?side2 A4.out).mono ?_); (case side1 => repeat (first | exact HR0.out | (with_reducible refine Kd.C_alloc ?_ _) | (with_reducible refine Kd.C_drewN ?_ _) | (with_reducible refine Kd.C_drew ?_))); (case side2 => exact HC0.out); rintro e w' ⟨rfl, ⟨nd, rfl⟩⟩; refine ⟨_, rfl, ?_⟩))
        go_ret
        exact ⟨by first | rfl | (simp; done) | (simp [*]; done), by repeat (first | exact Drawn0.refl _ | apply Drawn0.step)⟩
  · replace c3 := Bool.eq_false_iff.mpr c3
    subst c3
    have H1 : (some 2) = some r := by rw [if_neg (show ¬ (false = true) by decide)] at H; exact H
    clear H
    have H := H1
    clear H1
    obtain rfl := Option.some.inj H
    go_enter Try.func14, Try.ntmps14
    go_wp2_with (first | ((with_reducible refine gate_callee (f := 28) rfl ?_); refine goesL_ (some 5) rfl rfl Try.func28 (by kernel_rfl) rfl #[.slice A0 l0.length c0] rfl (by (try simp only [List.map_toArray, List.map_cons, List.map_nil]); first | done | rfl | (simp only [List.length_drop, List.length_take]; rfl)) ?_; (with_reducible refine (valiseref04_Lengths.calls k _ _ l0 false _ ?side1 ?side2 A2.out).mono ?_); (case side1 => repeat (first | exact HR0.out | (with_reducible refine Kd.C_alloc ?_ _) | (with_reducible refine Kd.C_drewN ?_ _) | (with_reducible refine Kd.C_drew ?_))); (case side2 => exact HC0.out); rintro e w' ⟨rfl, ⟨nd, rfl⟩⟩; refine ⟨_, rfl, ?_⟩))
    go_ret
    exact ⟨by first | rfl | (simp; done) | (simp [*]; done), by repeat (first | exact Drawn0.refl _ | apply Drawn0.step)⟩

end Go.Proofs.Ythcndpdfcippiaa.Pr

-- YthcndpdfcippiaaPr5
namespace Go.Proofs.Ythcndpdfcippiaa.Pr
open Go.RowKit Go.Proofs.YthcndpdfcippiaaW.PrintWords Go.Proofs.YthcndpdfcippiaaW.PrintLast Go.Proofs.YthcndpdfcippiaaW.PrintMore
attribute [local go_sem] max2_int min2_int max_two min_two max_three min_three max_four min_four   -- for this text's walks alone
set_option linter.unusedVariables false
set_option linter.unusedSimpArgs false

/-! ### valiseref04_Codes: function 12 -/
mutual
def valiseref04_Codes.j0 : Nat → List Int → Int → Bool → Option (List Int × Int)
  | 0, _, _, _ => none
  | k + 1, x0, x4, x17 => if x17 = true then (some (([] : List Int), x4)) else (if 0 ≤ (x0.length : Int) then (if ((x0.length : Int) : Int).toNat ≤ 35184372088832 then (valiseref04_Codes.l0 k x0 (List.replicate ((x0.length : Int) : Int).toNat 0) (-1) 0 1) else (none)) else (none))
def valiseref04_Codes.l0 : Nat → List Int → List Int → Int → Int → Int → Option (List Int × Int)
  | 0, _, _, _, _, _ => none
  | k + 1, x0, x5, x6, x7, x8 => if x8 ≤ 15 then (valiseref04_Codes.l1 k x0 x5 x6 x7 x8 0) else (some (x5, 0))
def valiseref04_Codes.l1 : Nat → List Int → List Int → Int → Int → Int → Int → Option (List Int × Int)
  | 0, _, _, _, _, _, _ => none
  | k + 1, x0, x5, x6, x7, x8, x9 => if x9 < (x0.length : Int) then (if 0 ≤ x9 then (if (rd x0 x9) = x8 then (valiseref04_Codes.l2 k x0 x5 (wrap64 (x6 + 1)) x7 x8 x9) else (valiseref04_Codes.l1 k x0 x5 x6 x7 x8 (wrap64 (x9 + 1)))) else (none)) else (valiseref04_Codes.l0 k x0 x5 x6 x7 (wrap64 (x8 + 1)))
def valiseref04_Codes.l2 : Nat → List Int → List Int → Int → Int → Int → Int → Option (List Int × Int)
  | 0, _, _, _, _, _, _ => none
  | k + 1, x0, x5, x6, x7, x8, x9 => if x7 < x8 then (valiseref04_Codes.l2 k x0 x5 (wrap64 (2 * x6)) (wrap64 (x7 + 1)) x8 x9) else (if 0 ≤ x9 then (if x9 < (x5.length : Int) then (valiseref04_Codes.l1 k x0 (x5.set (x9 : Int).toNat x6) x6 x7 x8 (wrap64 (x9 + 1))) else (none)) else (none))
end
def valiseref04_Codes.f (k : Nat) (l0 : List Int) : Option (List Int × Int) := (valiseref04_Check.f k l0).bind fun t113 => (if t113 = 0 then (valiseref04_Codes.j0 k l0 t113 false) else (valiseref04_Codes.j0 k l0 t113 (t113 != 12)))
theorem valiseref04_Codes.mono_l : ∀ k, (∀ y0 y1 y2, LeO (valiseref04_Codes.j0 k y0 y1 y2) (valiseref04_Codes.j0 (k + 1) y0 y1 y2)) ∧ (∀ y0 y1 y2 y3 y4, LeO (valiseref04_Codes.l0 k y0 y1 y2 y3 y4) (valiseref04_Codes.l0 (k + 1) y0 y1 y2 y3 y4)) ∧ (∀ y0 y1 y2 y3 y4 y5, LeO (valiseref04_Codes.l1 k y0 y1 y2 y3 y4 y5) (valiseref04_Codes.l1 (k + 1) y0 y1 y2 y3 y4 y5)) ∧ (∀ y0 y1 y2 y3 y4 y5, LeO (valiseref04_Codes.l2 k y0 y1 y2 y3 y4 y5) (valiseref04_Codes.l2 (k + 1) y0 y1 y2 y3 y4 y5))
  | 0 => ⟨fun _ _ _ r h => by simp [valiseref04_Codes.j0] at h, fun _ _ _ _ _ r h => by simp [valiseref04_Codes.l0] at h, fun _ _ _ _ _ _ r h => by simp [valiseref04_Codes.l1] at h, fun _ _ _ _ _ _ r h => by simp [valiseref04_Codes.l2] at h⟩
  | k + 1 => by
    obtain ⟨ih0, ih1, ih2, ih3⟩ := valiseref04_Codes.mono_l k
    refine ⟨?_, ?_, ?_, ?_⟩
    · intro y0 y1 y2
      unfold valiseref04_Codes.j0
      repeat' first
      | (with_reducible exact ih0 _ _ _)
      | (with_reducible exact ih1 _ _ _ _ _)
      | (with_reducible exact ih2 _ _ _ _ _ _)
      | (with_reducible exact ih3 _ _ _ _ _ _)
      | (with_reducible exact valiseref04_Check.mono _ _)
      | (with_reducible exact LeO.refl _)
      | (with_reducible exact LeO.none _)
      | (with_reducible refine LeO.ite ?_ ?_)
      | (with_reducible refine LeO.bind ?_ (fun _ => ?_))
      | exact ih0 _ _ _
      | exact ih1 _ _ _ _ _
      | exact ih2 _ _ _ _ _ _
      | exact ih3 _ _ _ _ _ _
      | exact valiseref04_Check.mono _ _
      | exact LeO.none _
      | refine LeO.ite ?_ ?_
      | refine LeO.bind ?_ (fun _ => ?_)
    · intro y0 y1 y2 y3 y4
      unfold valiseref04_Codes.l0
      repeat' first
      | (with_reducible exact ih0 _ _ _)
      | (with_reducible exact ih1 _ _ _ _ _)
      | (with_reducible exact ih2 _ _ _ _ _ _)
      | (with_reducible exact ih3 _ _ _ _ _ _)
      | (with_reducible exact valiseref04_Check.mono _ _)
      | (with_reducible exact LeO.refl _)
      | (with_reducible exact LeO.none _)
      | (with_reducible refine LeO.ite ?_ ?_)
      | (with_reducible refine LeO.bind ?_ (fun _ => ?_))
      | exact ih0 _ _ _
      | exact ih1 _ _ _ _ _
      | exact ih2 _ _ _ _ _ _
      | exact ih3 _ _ _ _ _ _
      | exact valiseref04_Check.mono _ _
      | exact LeO.none _
      | refine LeO.ite ?_ ?_
      | refine LeO.bind ?_ (fun _ => ?_)
    · intro y0 y1 y2 y3 y4 y5
      unfold valiseref04_Codes.l1
      repeat' first
      | (with_reducible exact ih0 _ _ _)
      | (with_reducible exact ih1 _ _ _ _ _)
      | (with_reducible exact ih2 _ _ _ _ _ _)
      | (with_reducible exact ih3 _ _ _ _ _ _)
      | (with_reducible exact valiseref04_Check.mono _ _)
      | (with_reducible exact LeO.refl _)
      | (with_reducible exact LeO.none _)
      | (with_reducible refine LeO.ite ?_ ?_)
      | (with_reducible refine LeO.bind ?_ (fun _ => ?_))
      | exact ih0 _ _ _
      | exact ih1 _ _ _ _ _
      | exact ih2 _ _ _ _ _ _
      | exact ih3 _ _ _ _ _ _
      | exact valiseref04_Check.mono _ _
      | exact LeO.none _
      | refine LeO.ite ?_ ?_
      | refine LeO.bind ?_ (fun _ => ?_)
    · intro y0 y1 y2 y3 y4 y5
      unfold valiseref04_Codes.l2
      repeat' first
      | (with_reducible exact ih0 _ _ _)
      | (with_reducible exact ih1 _ _ _ _ _)
      | (with_reducible exact ih2 _ _ _ _ _ _)
      | (with_reducible exact ih3 _ _ _ _ _ _)
      | (with_reducible exact valiseref04_Check.mono _ _)
      | (with_reducible exact LeO.refl _)
      | (with_reducible exact LeO.none _)
      | (with_reducible refine LeO.ite ?_ ?_)
      | (with_reducible refine LeO.bind ?_ (fun _ => ?_))
      | exact ih0 _ _ _
      | exact ih1 _ _ _ _ _
      | exact ih2 _ _ _ _ _ _
      | exact ih3 _ _ _ _ _ _
      | exact valiseref04_Check.mono _ _
      | exact LeO.none _
      | refine LeO.ite ?_ ?_
      | refine LeO.bind ?_ (fun _ => ?_)
theorem valiseref04_Codes.mono : ∀ a0 k, LeO (valiseref04_Codes.f k a0) (valiseref04_Codes.f (k + 1) a0) := by
  intro a0 k
  obtain ⟨ih0, ih1, ih2, ih3⟩ := valiseref04_Codes.mono_l k
  unfold valiseref04_Codes.f
  repeat' first
      | (with_reducible exact ih0 _ _ _)
      | (with_reducible exact ih1 _ _ _ _ _)
      | (with_reducible exact ih2 _ _ _ _ _ _)
      | (with_reducible exact ih3 _ _ _ _ _ _)
      | (with_reducible exact valiseref04_Check.mono _ _)
      | (with_reducible exact LeO.refl _)
      | (with_reducible exact LeO.none _)
      | (with_reducible refine LeO.ite ?_ ?_)
      | (with_reducible refine LeO.bind ?_ (fun _ => ?_))
      | exact ih0 _ _ _
      | exact ih1 _ _ _ _ _
      | exact ih2 _ _ _ _ _ _
      | exact ih3 _ _ _ _ _ _
      | exact valiseref04_Check.mono _ _
      | exact LeO.none _
      | refine LeO.ite ?_ ?_
      | refine LeO.bind ?_ (fun _ => ?_)
set_option maxHeartbeats 8000000 in
set_option maxRecDepth 100000 in
theorem valiseref04_Codes.calls (k : Nat) (A0 : Option Addr) (c0 : Nat) (l0 : List Int) (r1 : List Int) (r2 : Int) (w : World) (hr0 : Kd.C (Kd.int .i64) w A0 l0.length l0) (hc0 : l0.length ≤ c0) (h : valiseref04_Codes.f k l0 = some (r1, r2)) :
    Calls Try.prog 12 #[.slice A0 l0.length c0] w fun e w' => ∃ v0_ : Value, e = .returned (.tuple #[v0_, .int .i64 r2]) ∧ Kd.R (Kd.int .i64) 3 w' w.heap.size (fun _ => True) v0_ r1 ∧ Below w.heap.size w w' := by
  have HR0 := Aside0.mk hr0
  have HC0 := Aside0.mk hc0
  clear hr0 hc0
  have HB := Aside0.mk (Below.refl w.heap.size w)
  have H : ((valiseref04_Check.f k l0).bind fun t113 => (if t113 = 0 then (valiseref04_Codes.j0 k l0 t113 false) else (valiseref04_Codes.j0 k l0 t113 (t113 != 12)))) = some (r1, r2) := h
  clear h
  replace H := Option.bind_eq_some_iff.mp H
  obtain ⟨t113, A20, H⟩ := H
  replace H : (if t113 = 0 then (valiseref04_Codes.j0 k l0 t113 false) else (valiseref04_Codes.j0 k l0 t113 (t113 != 12))) = some (r1, r2) := H
  have A2 := Aside0.mk A20
  clear A20
  have HC3 := Aside0.mk H
  clear H
  go_enter Try.func12, Try.ntmps12
  go_upto_region 2 with (first | ((with_reducible refine gate_callee (f := 14) rfl ?_); refine goesL_ (some 11) rfl rfl Try.func14 (by kernel_rfl) rfl #[.slice A0 l0.length c0] rfl (by (try simp only [List.map_toArray, List.map_cons, List.map_nil]); first | done | rfl | (simp only [List.length_drop, List.length_take]; rfl)) ?_; (with_reducible refine (valiseref04_Check.calls k _ _ l0 t113 _ ?side1 ?side2 A2.out).mono ?_); (case side1 => repeat (first | exact HR0.out | (with_reducible refine Kd.C_alloc ?_ _) | (with_reducible refine Kd.C_drewN ?_ _) | (with_reducible refine Kd.C_drew ?_))); (case side2 => exact HC0.out); rintro e w' ⟨rfl, ⟨nd, rfl⟩⟩; refine ⟨_, rfl, ?_⟩))
  (try simp only [Act.put, List.setIfInBounds_toArray, List.set_cons_zero, List.set_cons_succ])
  go_cut [17] (fun v17 wc => ∃ (kq : Nat) (x17_2 : Bool), v17 = .bool x17_2 ∧ Aside0 (valiseref04_Codes.j0 kq l0 t113 x17_2 = some (r1, r2)) ∧ Aside0 (kq ≤ k) ∧ Aside0 (Below w.heap.size w wc))
  case first =>
    have H := HC3.out
    clear HC3
    by_cases c4 : t113 = 0
    · rw [if_pos c4] at H
      have c4b0 : (t113 == 0) = true := beq_iff_eq.mpr c4
      have c4b1 : (t113 != 0) = false := bne_eq_false_iff_eq.mpr c4
      clear c4
      (first | rw [c4b0] | (simp only [i64_w, i32_w, u8_w]; rw [c4b0]) | skip)
      have H' := Aside0.mk H
      clear H
      go_wp2
      go_meet
      case rel => exact ⟨_, (false), (by first | rfl | (simp; done) | (simp [*]; done)), H', ⟨by first | omega | exact Nat.le_refl _⟩, ⟨by repeat (first | (with_reducible first | exact HB.out | apply below_alloc | apply pw_below_drewN | apply below_drew1) | exact HB.out)⟩⟩
    · rw [if_neg c4] at H
      have c4b0 : (t113 == 0) = false := beq_eq_false_iff_ne.mpr c4
      have c4b1 : (t113 != 0) = true := bne_iff_ne.mpr c4
      (first | rw [c4b0] | (simp only [i64_w, i32_w, u8_w]; rw [c4b0]) | skip)
      have H' := Aside0.mk H
      clear H
      go_wp2
      go_meet
      case rel => exact ⟨_, ((t113 != 12)), (by first | rfl | (simp; done) | (simp [*]; done)), H', ⟨by first | omega | exact Nat.le_refl _⟩, ⟨by repeat (first | (with_reducible first | exact HB.out | apply below_alloc | apply pw_below_drewN | apply below_drew1) | exact HB.out)⟩⟩
  case rest =>
    clear HC3
    try clear c1
    try clear p2
    try clear c4
    try clear c4b0
    try clear c4b1
    obtain ⟨kq, x17_2, rfl, HA, HJ2, HB⟩ := hcut
    cases kq with
    | zero => exact absurd HA.out (by simp [valiseref04_Codes.j0])
    | succ kj2 =>
      have H := HA.out
      clear HA
      simp only [valiseref04_Codes.j0] at H
      by_cases c5 : x17_2 = true
      · subst c5
        have H1 : (some (([] : List Int), t113)) = some (r1, r2) := by rw [if_pos rfl] at H; exact H
        clear H
        have H := H1
        clear H1
        simp only [Option.some.injEq, Prod.mk.injEq] at H
        obtain ⟨rfl, rfl⟩ := H
        go_wp2
        go_ret2
        exact ⟨_, by first | rfl | (simp [errW_none, errW_some] <;> rfl) | (simp [*, errW_none, errW_some] <;> rfl), by first | exact Kd.R_nil _ _ _ _ _ | exact Kd.N_nil _ _ _ _ _ | exact Kd.V_nil _ _ _ _ _ | exact Kd.Q_nil _ _ _ _ _ | exact Kd.S_nil _ _ _ _ _, by repeat (first | (with_reducible first | exact HB.out | apply below_alloc | apply pw_below_drewN | apply below_drew1) | exact HB.out)⟩
      · replace c5 := Bool.eq_false_iff.mpr c5
        subst c5
        have H1 : (if 0 ≤ (l0.length : Int) then (if ((l0.length : Int) : Int).toNat ≤ 35184372088832 then (valiseref04_Codes.l0 kj2 l0 (List.replicate ((l0.length : Int) : Int).toNat 0) (-1) 0 1) else (none)) else (none)) = some (r1, r2) := by rw [if_neg (show ¬ (false = true) by decide)] at H; exact H
        clear H
        have H := H1
        clear H1
        by_cases c6 : 0 ≤ (l0.length : Int)
        · rw [if_pos c6] at H
          have c6b0 := eq_true c6
          have c6b1 : decide (0 ≤ (l0.length : Int)) = true := decide_eq_true c6
          clear c6
          by_cases c7 : ((l0.length : Int) : Int).toNat ≤ 35184372088832
          · rw [if_pos c7] at H
            have c7b0 := eq_true c7
            have c7b1 : decide (((l0.length : Int) : Int).toNat ≤ 35184372088832) = true := decide_eq_true c7
            clear c7
            obtain ⟨y114, hy114⟩ : ∃ y_ : List Int, y_ = (List.replicate ((l0.length : Int) : Int).toNat 0) := ⟨_, rfl⟩
            replace H : (valiseref04_Codes.l0 kj2 l0 y114 (-1) 0 1) = some (r1, r2) := by first | (rw [hy114]; with_reducible exact H) | (have H2_ := (Option.bind_some _ _).symm.trans H; rw [hy114]; with_reducible exact H2_) | (have H2_ := (Option.bind_some _ _).symm.trans H; with_reducible exact H2_) | with_reducible exact H | (rw [hy114]; exact H) | exact H
            have Ny114 := Aside0.mk hy114
            clear hy114
            have H' := Aside0.mk H
            clear H
            go_wp2_with (first | ((with_reducible refine gate_dst (N := 21) rfl ?_); refine Kd.R_make (Kd.int .i64) _ 3 rfl (N := 21) rfl 22 _ _ rfl (l0.length : Int) rfl rfl Try.underlying22 (.int .i64 0) 8 info3 rfl (by decide) (by omega) 0 (ok := fun _ => True) (okp := fun _ => True) rfl (fun _ hk => hk) trivial (of_decide_eq_true (by first | (with_reducible assumption) | assumption)) (Nat.le_trans (Nat.mul_le_mul_right _ (of_decide_eq_true (by first | (with_reducible assumption) | assumption) : (l0.length : Int).toNat ≤ 35184372088832)) (by omega)) (Below.refl _ _) (Nat.le_refl _) ?_; intro v115 w8 ho9 hb hg_ hnew_; clear hg_ hnew_; (first | rw [← Ny114.out] at ho9 | (simp only [Int.reduceToNat] at ho9; rw [← Ny114.out] at ho9)); have n0_ := Aside0.mk (Kd.R_lower ho9 (below_size (by repeat (first | (with_reducible first | exact HB.out | apply below_alloc | apply pw_below_drewN | apply below_drew1) | exact HB.out)))); have n1_ := Aside0.mk (below_step (by repeat (first | (with_reducible first | exact HB.out | apply below_alloc | apply pw_below_drewN | apply below_drew1) | exact HB.out)) hb); clear HB; have HO116 := n0_; have HB := n1_; clear n0_ n1_; clear hb ho9))
            go_loopg [6, 7, 8] kj2 (fun kq v6 v7 v8 w' => ∃ (x5_2 : List Int) (x6_2 : Int) (x7_2 : Int) (x8_2 : Int), v6 = .int .i64 x6_2 ∧ v7 = .int .i64 x7_2 ∧ v8 = .int .i64 x8_2 ∧ Aside0 (valiseref04_Codes.l0 kq l0 x5_2 x6_2 x7_2 x8_2 = some (r1, r2)) ∧ Aside0 (kq ≤ kj2) ∧ Aside0 (Kd.R (Kd.int .i64) 3 w' w.heap.size (fun _ => True) v115 x5_2) ∧ Aside0 (Below w.heap.size w w'))
            case atStart => exact ⟨(y114), ((-1)), (0), (1), (by first | rfl | (simp; done) | (simp [*]; done)), (by first | rfl | (simp; done) | (simp [*]; done)), (by first | rfl | (simp; done) | (simp [*]; done)), H', ⟨Nat.le_refl _⟩, ⟨by (with_reducible repeat (first | apply Kd.R_alloc | apply Kd.R_drewN | apply Kd.R_drew)); exact HO116.out⟩, ⟨by repeat (first | (with_reducible first | exact HB.out | apply below_alloc | apply pw_below_drewN | apply below_drew1) | exact HB.out)⟩⟩
            case round =>
              clear H'
              try clear c1
              try clear p2
              try clear c4
              try clear c4b0
              try clear c4b1
              try clear c5
              try clear c6
              try clear c6b0
              try clear c6b1
              try clear c7
              try clear c7b0
              try clear c7b1
              try clear p2
              obtain ⟨x5_2, x6_2, x7_2, x8_2, rfl, rfl, rfl, HA, HK2, HO_5, HB⟩ := hrel
              cases gk with
              | zero => exact absurd HA.out (by simp [valiseref04_Codes.l0])
              | succ k2 =>
                have H := HA.out
                clear HA
                simp only [valiseref04_Codes.l0] at H
                by_cases c10 : x8_2 ≤ 15
                · rw [if_pos c10] at H
                  have c10b0 : decide (x8_2 ≤ 15) = true := decide_eq_true c10
                  clear c10
                  have H' := Aside0.mk H
                  clear H
                  go_wp2
                  go_loopg [6, 7, 9] k2 (fun kq v6 v7 v9 w' => ∃ (x5_3 : List Int) (x6_3 : Int) (x7_3 : Int) (x9_3 : Int), v6 = .int .i64 x6_3 ∧ v7 = .int .i64 x7_3 ∧ v9 = .int .i64 x9_3 ∧ Aside0 (valiseref04_Codes.l1 kq l0 x5_3 x6_3 x7_3 x8_2 x9_3 = some (r1, r2)) ∧ Aside0 (kq ≤ k2) ∧ Aside0 (Kd.R (Kd.int .i64) 3 w' w.heap.size (fun _ => True) v115 x5_3) ∧ Aside0 (Below w.heap.size w w'))
                  case atStart => exact ⟨(x5_2), (x6_2), (x7_2), (0), (by first | rfl | (simp; done) | (simp [*]; done)), (by first | rfl | (simp; done) | (simp [*]; done)), (by first | rfl | (simp; done) | (simp [*]; done)), H', ⟨Nat.le_refl _⟩, ⟨by (with_reducible repeat (first | apply Kd.R_alloc | apply Kd.R_drewN | apply Kd.R_drew)); exact HO_5.out⟩, ⟨by repeat (first | (with_reducible first | exact HB.out | apply below_alloc | apply pw_below_drewN | apply below_drew1) | exact HB.out)⟩⟩
                  case round =>
                    clear H'
                    try clear c1
                    try clear p2
                    try clear c4
                    try clear c4b0
                    try clear c4b1
                    try clear c5
                    try clear c6
                    try clear c6b0
                    try clear c6b1
                    try clear c7
                    try clear c7b0
                    try clear c7b1
                    try clear c10
                    try clear c10b0
                    try clear p2
                    obtain ⟨x5_3, x6_3, x7_3, x9_3, rfl, rfl, rfl, HA, HK3, HO_5, HB⟩ := hrel
                    cases gk with
                    | zero => exact absurd HA.out (by simp [valiseref04_Codes.l1])
                    | succ k3 =>
                      have H := HA.out
                      clear HA
                      simp only [valiseref04_Codes.l1] at H
                      by_cases c11 : x9_3 < (l0.length : Int)
                      · rw [if_pos c11] at H
                        have c11b0 : decide (x9_3 < (l0.length : Int)) = true := decide_eq_true c11
                        clear c11
                        by_cases c12 : 0 ≤ x9_3
                        · rw [if_pos c12] at H
                          have c12b0 : decide (0 ≤ x9_3) = true := decide_eq_true c12
                          clear c12
                          by_cases c13 : (rd l0 x9_3) = x8_2
                          · rw [if_pos c13] at H
                            have c13b0 : ((rd l0 x9_3) == x8_2) = true := beq_iff_eq.mpr c13
                            have c13b1 : ((rd l0 x9_3) != x8_2) = false := bne_eq_false_iff_eq.mpr c13
                            clear c13
                            have H' := Aside0.mk H
                            clear H
                            have p117 : 0 ≤ (x9_3 : Int) := of_decide_eq_true (by first | (with_reducible assumption) | assumption)
                            have q117 : x9_3 < (l0.length : Int) := of_decide_eq_true (by first | (with_reducible assumption) | assumption)
                            obtain ⟨ad117, e117, hx117_0⟩ := Kd.at_int HR0.out x9_3 p117 q117
                            cases e117
                            replace hx117_0 := (HB.out.cell (World.block_lt_of_cell? w _ hx117_0)).trans hx117_0
                            replace p117 := eq_true p117
                            replace q117 := eq_true q117
                            go_wp2
                            go_loopg [6, 7] k3 (fun kq v6 v7 w' => ∃ (x6_4 : Int) (x7_4 : Int), v6 = .int .i64 x6_4 ∧ v7 = .int .i64 x7_4 ∧ Aside0 (valiseref04_Codes.l2 kq l0 x5_3 x6_4 x7_4 x8_2 x9_3 = some (r1, r2)) ∧ Aside0 (kq ≤ k3) ∧ Aside0 (Kd.R (Kd.int .i64) 3 w' w.heap.size (fun _ => True) v115 x5_3) ∧ Aside0 (Below w.heap.size w w'))
                            case atStart => exact ⟨(wrap64 (x6_3 + 1)), (x7_3), (by first | rfl | (simp; done) | (simp [*]; done)), (by first | rfl | (simp; done) | (simp [*]; done)), H', ⟨Nat.le_refl _⟩, ⟨by (with_reducible repeat (first | apply Kd.R_alloc | apply Kd.R_drewN | apply Kd.R_drew)); exact HO_5.out⟩, ⟨by repeat (first | (with_reducible first | exact HB.out | apply below_alloc | apply pw_below_drewN | apply below_drew1) | exact HB.out)⟩⟩
                            case round =>
                              clear H'
                              try clear c1
                              try clear p1
                              try clear q1
                              try clear hx1
                              try clear p2
                              try clear c4
                              try clear c4b0
                              try clear c4b1
                              try clear c5
                              try clear c6
                              try clear c6b0
                              try clear c6b1
                              try clear p6
                              try clear c7
                              try clear c7b0
                              try clear c7b1
                              try clear c10
                              try clear c10b0
                              try clear c11
                              try clear c11b0
                              try clear p11
                              try clear q11
                              try clear hx11
                              try clear c12
                              try clear c12b0
                              try clear c13
                              try clear c13b0
                              try clear c13b1
                              try clear hx117_0
                              try clear p117
                              try clear p2
                              try clear q117
                              obtain ⟨x6_4, x7_4, rfl, rfl, HA, HK4, HO_5, HB⟩ := hrel
                              cases gk with
                              | zero => exact absurd HA.out (by simp [valiseref04_Codes.l2])
                              | succ k4 =>
                                have H := HA.out
                                clear HA
                                simp only [valiseref04_Codes.l2] at H
                                by_cases c14 : x7_4 < x8_2
                                · rw [if_pos c14] at H
                                  have c14b0 : decide (x7_4 < x8_2) = true := decide_eq_true c14
                                  clear c14
                                  have H' := Aside0.mk H
                                  clear H
                                  go_wp2
                                  go_roundg k4
                                  case measure => have := HJ2.out; have := HK2.out; have := HK3.out; have := HK4.out; omega
                                  case rel => exact ⟨(wrap64 (2 * x6_4)), (wrap64 (x7_4 + 1)), (by first | rfl | (simp; done) | (simp [*]; done)), (by first | rfl | (simp; done) | (simp [*]; done)), H', ⟨by have := HJ2.out; have := HK2.out; have := HK3.out; have := HK4.out; omega⟩, ⟨by (with_reducible repeat (first | apply Kd.R_alloc | apply Kd.R_drewN | apply Kd.R_drew)); exact HO_5.out⟩, ⟨by repeat (first | (with_reducible first | exact HB.out | apply below_alloc | apply pw_below_drewN | apply below_drew1) | exact HB.out)⟩⟩
                                · rw [if_neg c14] at H
                                  have c14b0 : decide (x7_4 < x8_2) = false := decide_eq_false c14
                                  clear c14
                                  by_cases c15 : 0 ≤ x9_3
                                  · rw [if_pos c15] at H
                                    have c15b0 : decide (0 ≤ x9_3) = true := decide_eq_true c15
                                    clear c15
                                    by_cases c16 : x9_3 < (x5_3.length : Int)
                                    · rw [if_pos c16] at H
                                      have c16b0 : decide (x9_3 < (x5_3.length : Int)) = true := decide_eq_true c16
                                      clear c16
                                      obtain ⟨y118, hy118⟩ : ∃ y_ : List Int, y_ = (x5_3.set (x9_3 : Int).toNat x6_4) := ⟨_, rfl⟩
                                      replace H : (valiseref04_Codes.l1 k4 l0 y118 x6_4 x7_4 x8_2 (wrap64 (x9_3 + 1))) = some (r1, r2) := by first | (rw [hy118]; with_reducible exact H) | (have H2_ := (Option.bind_some _ _).symm.trans H; rw [hy118]; with_reducible exact H2_) | (have H2_ := (Option.bind_some _ _).symm.trans H; with_reducible exact H2_) | with_reducible exact H | (rw [hy118]; exact H) | exact H
                                      have Ny118 := Aside0.mk hy118
                                      clear hy118
                                      have H' := Aside0.mk H
                                      clear H
                                      have p17 : 0 ≤ (x9_3 : Int) := of_decide_eq_true (by first | (with_reducible assumption) | assumption)
                                      have q17 : (x9_3 : Int) < ((x5_3.length : Int) : Int) := of_decide_eq_true (by first | (with_reducible assumption) | assumption)
                                      obtain ⟨go17, co17, eo17, gb17, gl17, cl17, HG17⟩ := Kd.R_form HO_5.out (by omega)
                                      (first | cases eo17 | (injection eo17 with ea_ en_ ec_; (first | subst ea_ | (injection ea_ with ea_; subst ea_)); subst ec_; clear en_))
                                      have GB17 := Aside0.mk gb17
                                      have GG17 := Aside0.mk HG17
                                      clear gb17 gl17 HG17
                                      obtain ⟨hx17_0, hf17_0⟩ := Kd.R_celln 0 HO_5.out (x9_3 : Int) p17 q17
                                      replace p17 := eq_true p17
                                      replace q17 := eq_true q17
                                      have HP18 := Kd.R_putg HO_5.out (x9_3 : Int) x6_4
                                      go_wp2_with (first | ((with_reducible refine gate_store (t := 3) (p := 50) rfl ?_); refine store_event (t := 3) (p := 50) (v := ?vo_w19) (w1 := (wr.setCell ⟨go17, (x9_3 : Int).toNat, none⟩ (.int .i64 x6_4))) ?hg ?ho ?hn ?hr ?_; (case ho => rfl); (case hg => rfl); (case hn => rfl); (case hr => first | (go_simp; done) | (go_simp; rfl)); intro w19 hw; have hg : wr.grownBy w19 (some go17) := (by rw [hw]; exact HP18.2); have hp_ : Kd.R (Kd.int .i64) 3 w19 w.heap.size (fun _ => True) (.slice (some ⟨go17, 0, none⟩) x5_3.length co17) y118 := (by rw [hw, Ny118.out]; exact HP18.1); clear HP18; have n0_ := Aside0.mk (hp_); have n1_ := Aside0.mk ((by rw [hw]; exact below_set (HB.out) GB17.out : Below w.heap.size w w19)); clear HO_5; clear HB; have HO_5 := n0_; have HB := n1_; clear n0_ n1_; clear hg hw hp_))
                                      go_roundg k4
                                      case measure => have := HJ2.out; have := HK2.out; have := HK3.out; have := HK4.out; omega
                                      case rel => exact ⟨(y118), (x6_4), (x7_4), (wrap64 (x9_3 + 1)), (by first | rfl | (simp; done) | (simp [*]; done)), (by first | rfl | (simp; done) | (simp [*]; done)), (by first | rfl | (simp; done) | (simp [*]; done)), H', ⟨by have := HJ2.out; have := HK2.out; have := HK3.out; have := HK4.out; omega⟩, ⟨by (with_reducible repeat (first | apply Kd.R_alloc | apply Kd.R_drewN | apply Kd.R_drew)); exact HO_5.out⟩, ⟨by repeat (first | (with_reducible first | exact HB.out | apply below_alloc | apply pw_below_drewN | apply below_drew1) | exact HB.out)⟩⟩
                                    · rw [if_neg c16] at H
                                      exact absurd H (by simp)
                                  · rw [if_neg c15] at H
                                    exact absurd H (by simp)
                          · rw [if_neg c13] at H
                            have c13b0 : ((rd l0 x9_3) == x8_2) = false := beq_eq_false_iff_ne.mpr c13
                            have c13b1 : ((rd l0 x9_3) != x8_2) = true := bne_iff_ne.mpr c13
                            have H' := Aside0.mk H
                            clear H
                            have p117 : 0 ≤ (x9_3 : Int) := of_decide_eq_true (by first | (with_reducible assumption) | assumption)
                            have q117 : x9_3 < (l0.length : Int) := of_decide_eq_true (by first | (with_reducible assumption) | assumption)
                            obtain ⟨ad117, e117, hx117_0⟩ := Kd.at_int HR0.out x9_3 p117 q117
                            cases e117
                            replace hx117_0 := (HB.out.cell (World.block_lt_of_cell? w _ hx117_0)).trans hx117_0
                            replace p117 := eq_true p117
                            replace q117 := eq_true q117
                            go_wp2
                            go_roundg k3
                            case measure => have := HJ2.out; have := HK2.out; have := HK3.out; omega
                            case rel => exact ⟨(x5_3), (x6_3), (x7_3), (wrap64 (x9_3 + 1)), (by first | rfl | (simp; done) | (simp [*]; done)), (by first | rfl | (simp; done) | (simp [*]; done)), (by first | rfl | (simp; done) | (simp [*]; done)), H', ⟨by have := HJ2.out; have := HK2.out; have := HK3.out; omega⟩, ⟨by (with_reducible repeat (first | apply Kd.R_alloc | apply Kd.R_drewN | apply Kd.R_drew)); exact HO_5.out⟩, ⟨by repeat (first | (with_reducible first | exact HB.out | apply below_alloc | apply pw_below_drewN | apply below_drew1) | exact HB.out)⟩⟩
                        · rw [if_neg c12] at H
                          exact absurd H (by simp)
                      · rw [if_neg c11] at H
                        have c11b0 : decide (x9_3 < (l0.length : Int)) = false := decide_eq_false c11
                        clear c11
                        have H' := Aside0.mk H
                        clear H
                        go_wp2
                        go_roundg k3
                        case measure => have := HJ2.out; have := HK2.out; have := HK3.out; omega
                        case rel => exact ⟨(x5_3), (x6_3), (x7_3), (wrap64 (x8_2 + 1)), (by first | rfl | (simp; done) | (simp [*]; done)), (by first | rfl | (simp; done) | (simp [*]; done)), (by first | rfl | (simp; done) | (simp [*]; done)), H', ⟨by have := HJ2.out; have := HK2.out; have := HK3.out; omega⟩, ⟨by (with_reducible repeat (first | apply Kd.R_alloc | apply Kd.R_drewN | apply Kd.R_drew)); exact HO_5.out⟩, ⟨by repeat (first | (with_reducible first | exact HB.out | apply below_alloc | apply pw_below_drewN | apply below_drew1) | exact HB.out)⟩⟩
                · rw [if_neg c10] at H
                  have c10b0 : decide (x8_2 ≤ 15) = false := decide_eq_false c10
                  clear c10
                  simp only [Option.some.injEq, Prod.mk.injEq] at H
                  obtain ⟨rfl, rfl⟩ := H
                  go_wp2
                  go_ret2
                  exact ⟨_, by first | rfl | (simp [errW_none, errW_some] <;> rfl) | (simp [*, errW_none, errW_some] <;> rfl), by (with_reducible repeat (first | apply Kd.R_alloc | apply Kd.R_drewN | apply Kd.R_drew)); exact HO_5.out, by repeat (first | (with_reducible first | exact HB.out | apply below_alloc | apply pw_below_drewN | apply below_drew1) | exact HB.out)⟩
          · rw [if_neg c7] at H
            exact absurd H (by simp)
        · rw [if_neg c6] at H
          exact absurd H (by simp)

end Go.Proofs.Ythcndpdfcippiaa.Pr

-- YthcndpdfcippiaaPr24
namespace Go.Proofs.Ythcndpdfcippiaa.Pr
open Go.RowKit Go.Proofs.YthcndpdfcippiaaW.PrintWords Go.Proofs.YthcndpdfcippiaaW.PrintLast Go.Proofs.YthcndpdfcippiaaW.PrintMore
attribute [local go_sem] max2_int min2_int max_two min_two max_three min_three max_four min_four   -- for this text's walks alone
set_option linter.unusedVariables false
set_option linter.unusedSimpArgs false

/-! ### valiseref04_New: function 22 -/
mutual
def valiseref04_New.l0 : Nat → List Int → Int → Int → Int → Int → Option (Int)
  | 0, _, _, _, _, _ => none
  | k + 1, x0, x3, x4, x5, x6 => if x6 < (x0.length : Int) then (valiseref04_New.j1 k x0 x3 x4 x5 x6 (x3 == 12)) else (valiseref04_New.j1 k x0 x3 x4 x5 x6 false)
def valiseref04_New.j1 : Nat → List Int → Int → Int → Int → Int → Bool → Option (Int)
  | 0, _, _, _, _, _, _ => none
  | k + 1, x0, x3, x4, x5, x6, x16 => if x16 = true then (if 0 ≤ x6 then (if x6 < (x0.length : Int) then (if (rd x0 x6) > 0 then (valiseref04_New.l0 k x0 x3 (wrap64 (x4 + 1)) (rd x0 x6) (wrap64 (x6 + 1))) else (valiseref04_New.l0 k x0 x3 x4 x5 (wrap64 (x6 + 1)))) else (none)) else (none)) else (if x3 = 12 then (if x4 = 1 then (if x5 = 1 then (some 0) else (some x3)) else (some x3)) else (some x3))
end
def valiseref04_New.f (k : Nat) (l0 : List Int) : Option (Int) := (valiseref04_Check.f k l0).bind fun t216 => (valiseref04_New.l0 k l0 t216 0 0 0)
theorem valiseref04_New.mono_l : ∀ k, (∀ y0 y1 y2 y3 y4, LeO (valiseref04_New.l0 k y0 y1 y2 y3 y4) (valiseref04_New.l0 (k + 1) y0 y1 y2 y3 y4)) ∧ (∀ y0 y1 y2 y3 y4 y5, LeO (valiseref04_New.j1 k y0 y1 y2 y3 y4 y5) (valiseref04_New.j1 (k + 1) y0 y1 y2 y3 y4 y5))
  | 0 => ⟨fun _ _ _ _ _ r h => by simp [valiseref04_New.l0] at h, fun _ _ _ _ _ _ r h => by simp [valiseref04_New.j1] at h⟩
  | k + 1 => by
    obtain ⟨ih0, ih1⟩ := valiseref04_New.mono_l k
    refine ⟨?_, ?_⟩
    · intro y0 y1 y2 y3 y4
      unfold valiseref04_New.l0
      repeat' first
      | (with_reducible exact ih0 _ _ _ _ _)
      | (with_reducible exact ih1 _ _ _ _ _ _)
      | (with_reducible exact valiseref04_Check.mono _ _)
      | (with_reducible exact LeO.refl _)
      | (with_reducible exact LeO.none _)
      | (with_reducible refine LeO.ite ?_ ?_)
      | (with_reducible refine LeO.bind ?_ (fun _ => ?_))
      | exact ih0 _ _ _ _ _
      | exact ih1 _ _ _ _ _ _
      | exact valiseref04_Check.mono _ _
      | exact LeO.none _
      | refine LeO.ite ?_ ?_
      | refine LeO.bind ?_ (fun _ => ?_)
    · intro y0 y1 y2 y3 y4 y5
      unfold valiseref04_New.j1
      repeat' first
      | (with_reducible exact ih0 _ _ _ _ _)
      | (with_reducible exact ih1 _ _ _ _ _ _)
      | (with_reducible exact valiseref04_Check.mono _ _)
      | (with_reducible exact LeO.refl _)
      | (with_reducible exact LeO.none _)
      | (with_reducible refine LeO.ite ?_ ?_)
      | (with_reducible refine LeO.bind ?_ (fun _ => ?_))
      | exact ih0 _ _ _ _ _
      | exact ih1 _ _ _ _ _ _
      | exact valiseref04_Check.mono _ _
      | exact LeO.none _
      | refine LeO.ite ?_ ?_
      | refine LeO.bind ?_ (fun _ => ?_)
theorem valiseref04_New.mono : ∀ a0 k, LeO (valiseref04_New.f k a0) (valiseref04_New.f (k + 1) a0) := by
  intro a0 k
  obtain ⟨ih0, ih1⟩ := valiseref04_New.mono_l k
  unfold valiseref04_New.f
  repeat' first
      | (with_reducible exact ih0 _ _ _ _ _)
      | (with_reducible exact ih1 _ _ _ _ _ _)
      | (with_reducible exact valiseref04_Check.mono _ _)
      | (with_reducible exact LeO.refl _)
      | (with_reducible exact LeO.none _)
      | (with_reducible refine LeO.ite ?_ ?_)
      | (with_reducible refine LeO.bind ?_ (fun _ => ?_))
      | exact ih0 _ _ _ _ _
      | exact ih1 _ _ _ _ _ _
      | exact valiseref04_Check.mono _ _
      | exact LeO.none _
      | refine LeO.ite ?_ ?_
      | refine LeO.bind ?_ (fun _ => ?_)
set_option maxHeartbeats 8000000 in
set_option maxRecDepth 100000 in
theorem valiseref04_New.calls (k : Nat) (A0 : Option Addr) (c0 : Nat) (l0 : List Int) (r : Int) (w : World) (hr0 : Kd.C (Kd.int .i64) w A0 l0.length l0) (hc0 : l0.length ≤ c0) (h : valiseref04_New.f k l0 = some r) :
    Calls Try.prog 22 #[.slice A0 l0.length c0] w fun e w' => e = .returned (.int .i64 r) ∧ Drawn0 w w' := by
  have HR0 := Aside0.mk hr0
  have HC0 := Aside0.mk hc0
  clear hr0 hc0
  have H : ((valiseref04_Check.f k l0).bind fun t216 => (valiseref04_New.l0 k l0 t216 0 0 0)) = some r := h
  clear h
  replace H := Option.bind_eq_some_iff.mp H
  obtain ⟨t216, A20, H⟩ := H
  replace H : (valiseref04_New.l0 k l0 t216 0 0 0) = some r := H
  have A2 := Aside0.mk A20
  clear A20
  have H' := Aside0.mk H
  clear H
  go_enter Try.func22, Try.ntmps22
  go_wp2_with (first | ((with_reducible refine gate_callee (f := 14) rfl ?_); refine goesL_ (some 8) rfl rfl Try.func14 (by kernel_rfl) rfl #[.slice A0 l0.length c0] rfl (by (try simp only [List.map_toArray, List.map_cons, List.map_nil]); first | done | rfl | (simp only [List.length_drop, List.length_take]; rfl)) ?_; (with_reducible refine (valiseref04_Check.calls k _ _ l0 t216 _ ?side1 ?side2 A2.out).mono ?_); (case side1 => repeat (first | exact HR0.out | (with_reducible refine Kd.C_alloc ?_ _) | (with_reducible refine Kd.C_drewN ?_ _) | (with_reducible refine Kd.C_drew ?_))); (case side2 => exact HC0.out); rintro e w' ⟨rfl, ⟨nd, rfl⟩⟩; refine ⟨_, rfl, ?_⟩))
  go_loopg [4, 5, 6] k (fun kq v4 v5 v6 w' => ∃ (x4_1 : Int) (x5_1 : Int) (x6_1 : Int), v4 = .int .i64 x4_1 ∧ v5 = .int .i64 x5_1 ∧ v6 = .int .i64 x6_1 ∧ Aside0 (valiseref04_New.l0 kq l0 t216 x4_1 x5_1 x6_1 = some r) ∧ Aside0 (kq ≤ k) ∧ Drawn0 w w')
  case atStart => exact ⟨(0), (0), (0), (by first | rfl | (simp; done) | (simp [*]; done)), (by first | rfl | (simp; done) | (simp [*]; done)), (by first | rfl | (simp; done) | (simp [*]; done)), H', ⟨Nat.le_refl _⟩, by repeat (first | exact Drawn0.refl _ | apply Drawn0.step)⟩
  case round =>
    clear H'
    try clear c1
    try clear c2
    try clear p2
    obtain ⟨x4_1, x5_1, x6_1, rfl, rfl, rfl, HA, HK1, ⟨m1, rfl⟩⟩ := hrel
    cases gk with
    | zero => exact absurd HA.out (by simp [valiseref04_New.l0])
    | succ k1 =>
      have H := HA.out
      clear HA
      simp only [valiseref04_New.l0] at H
      have HC3 := Aside0.mk H
      clear H
      go_upto_region 4 with (fail)
      go_cut [16] (fun v16 wc => ∃ (kq : Nat) (x16_2 : Bool), v16 = .bool x16_2 ∧ Aside0 (valiseref04_New.j1 kq l0 t216 x4_1 x5_1 x6_1 x16_2 = some r) ∧ Aside0 (kq ≤ k1) ∧ Drawn0 w wc)
      case first =>
        have H := HC3.out
        clear HC3
        by_cases c4 : x6_1 < (l0.length : Int)
        · rw [if_pos c4] at H
          have c4b0 : decide (x6_1 < (l0.length : Int)) = true := decide_eq_true c4
          clear c4
          (first | rw [c4b0] | (simp only [i64_w, i32_w, u8_w]; rw [c4b0]) | skip)
          have H' := Aside0.mk H
          clear H
          go_wp2
          go_meet
          case rel => exact ⟨_, ((t216 == 12)), (by first | rfl | (simp; done) | (simp [*]; done)), H', ⟨by have := HK1.out; first | omega | exact Nat.le_refl _⟩, by repeat (first | exact Drawn0.refl _ | apply Drawn0.step)⟩
        · rw [if_neg c4] at H
          have c4b0 : decide (x6_1 < (l0.length : Int)) = false := decide_eq_false c4
          clear c4
          (first | rw [c4b0] | (simp only [i64_w, i32_w, u8_w]; rw [c4b0]) | skip)
          have H' := Aside0.mk H
          clear H
          go_wp2
          go_meet
          case rel => exact ⟨_, (false), (by first | rfl | (simp; done) | (simp [*]; done)), H', ⟨by have := HK1.out; first | omega | exact Nat.le_refl _⟩, by repeat (first | exact Drawn0.refl _ | apply Drawn0.step)⟩
      case rest =>
        clear HC3
        try clear c1
        try clear c2
        try clear p2
        try clear c4
        try clear c4b0
        try clear p2
        obtain ⟨kq, x16_2, rfl, HA, HJ2, ⟨mc2, rfl⟩⟩ := hcut
        cases kq with
        | zero => exact absurd HA.out (by simp [valiseref04_New.j1])
        | succ kj2 =>
          have H := HA.out
          clear HA
          simp only [valiseref04_New.j1] at H
          by_cases c5 : x16_2 = true
          · subst c5
            have H1 : (if 0 ≤ x6_1 then (if x6_1 < (l0.length : Int) then (if (rd l0 x6_1) > 0 then (valiseref04_New.l0 kj2 l0 t216 (wrap64 (x4_1 + 1)) (rd l0 x6_1) (wrap64 (x6_1 + 1))) else (valiseref04_New.l0 kj2 l0 t216 x4_1 x5_1 (wrap64 (x6_1 + 1)))) else (none)) else (none)) = some r := by rw [if_pos rfl] at H; exact H
            clear H
            have H := H1
            clear H1
            by_cases c6 : 0 ≤ x6_1
            · rw [if_pos c6] at H
              have c6b0 : decide (0 ≤ x6_1) = true := decide_eq_true c6
              clear c6
              by_cases c7 : x6_1 < (l0.length : Int)
              · rw [if_pos c7] at H
                have c7b0 : decide (x6_1 < (l0.length : Int)) = true := decide_eq_true c7
                clear c7
                by_cases c8 : (rd l0 x6_1) > 0
                · rw [if_pos c8] at H
                  have c8b0 : decide (0 < (rd l0 x6_1)) = true := decide_eq_true c8
                  clear c8
                  have H' := Aside0.mk H
                  clear H
                  have p217 : 0 ≤ (x6_1 : Int) := of_decide_eq_true (by first | (with_reducible assumption) | assumption)
                  have q217 : x6_1 < (l0.length : Int) := of_decide_eq_true (by first | (with_reducible assumption) | assumption)
                  obtain ⟨ad217, e217, hx217_0⟩ := Kd.at_int HR0.out x6_1 p217 q217
                  cases e217
                  replace p217 := eq_true p217
                  replace q217 := eq_true q217
                  have p218 : 0 ≤ (x6_1 : Int) := of_decide_eq_true (by first | (with_reducible assumption) | assumption)
                  have q218 : x6_1 < (l0.length : Int) := of_decide_eq_true (by first | (with_reducible assumption) | assumption)
                  obtain ⟨ad218, e218, hx218_0⟩ := Kd.at_int HR0.out x6_1 p218 q218
                  obtain rfl : ad217 = ad218 := (by injection e218)
                  replace p218 := eq_true p218
                  replace q218 := eq_true q218
                  go_wp2
                  go_roundg kj2
                  case measure => have := HK1.out; have := HJ2.out; omega
                  case rel => exact ⟨(wrap64 (x4_1 + 1)), (rd l0 x6_1), (wrap64 (x6_1 + 1)), (by first | rfl | (simp; done) | (simp [*]; done)), (by first | rfl | (simp; done) | (simp [*]; done)), (by first | rfl | (simp; done) | (simp [*]; done)), H', ⟨by have := HK1.out; have := HJ2.out; omega⟩, by repeat (first | exact Drawn0.refl _ | apply Drawn0.step)⟩
                · rw [if_neg c8] at H
                  have c8b0 : decide (0 < (rd l0 x6_1)) = false := decide_eq_false c8
                  clear c8
                  have H' := Aside0.mk H
                  clear H
                  have p217 : 0 ≤ (x6_1 : Int) := of_decide_eq_true (by first | (with_reducible assumption) | assumption)
                  have q217 : x6_1 < (l0.length : Int) := of_decide_eq_true (by first | (with_reducible assumption) | assumption)
                  obtain ⟨ad217, e217, hx217_0⟩ := Kd.at_int HR0.out x6_1 p217 q217
                  cases e217
                  replace p217 := eq_true p217
                  replace q217 := eq_true q217
                  go_wp2
                  go_roundg kj2
                  case measure => have := HK1.out; have := HJ2.out; omega
                  case rel => exact ⟨(x4_1), (x5_1), (wrap64 (x6_1 + 1)), (by first | rfl | (simp; done) | (simp [*]; done)), (by first | rfl | (simp; done) | (simp [*]; done)), (by first | rfl | (simp; done) | (simp [*]; done)), H', ⟨by have := HK1.out; have := HJ2.out; omega⟩, by repeat (first | exact Drawn0.refl _ | apply Drawn0.step)⟩
              · rw [if_neg c7] at H
                exact absurd H (by simp)
            · rw [if_neg c6] at H
              exact absurd H (by simp)
          · replace c5 := Bool.eq_false_iff.mpr c5
            subst c5
            have H1 : (if t216 = 12 then (if x4_1 = 1 then (if x5_1 = 1 then (some 0) else (some t216)) else (some t216)) else (some t216)) = some r := by rw [if_neg (show ¬ (false = true) by decide)] at H; exact H
            clear H
            have H := H1
            clear H1
            by_cases c9 : t216 = 12
            · rw [if_pos c9] at H
              have c9b0 : (t216 == 12) = true := beq_iff_eq.mpr c9
              have c9b1 : (t216 != 12) = false := bne_eq_false_iff_eq.mpr c9
              clear c9
              by_cases c10 : x4_1 = 1
              · rw [if_pos c10] at H
                have c10b0 : (x4_1 == 1) = true := beq_iff_eq.mpr c10
                have c10b1 : (x4_1 != 1) = false := bne_eq_false_iff_eq.mpr c10
                clear c10
                by_cases c11 : x5_1 = 1
                · rw [if_pos c11] at H
                  have c11b0 : (x5_1 == 1) = true := beq_iff_eq.mpr c11
                  have c11b1 : (x5_1 != 1) = false := bne_eq_false_iff_eq.mpr c11
                  clear c11
                  obtain rfl := Option.some.inj H
                  go_wp2
                  go_ret
                  exact ⟨by first | rfl | (simp; done) | (simp [*]; done), by repeat (first | exact Drawn0.refl _ | apply Drawn0.step)⟩
                · rw [if_neg c11] at H
                  have c11b0 : (x5_1 == 1) = false := beq_eq_false_iff_ne.mpr c11
                  have c11b1 : (x5_1 != 1) = true := bne_iff_ne.mpr c11
                  obtain rfl := Option.some.inj H
                  go_wp2
                  go_ret
                  exact ⟨by first | rfl | (simp; done) | (simp [*]; done), by repeat (first | exact Drawn0.refl _ | apply Drawn0.step)⟩
              · rw [if_neg c10] at H
                have c10b0 : (x4_1 == 1) = false := beq_eq_false_iff_ne.mpr c10
                have c10b1 : (x4_1 != 1) = true := bne_iff_ne.mpr c10
                obtain rfl := Option.some.inj H
                go_wp2
                go_ret
                exact ⟨by first | rfl | (simp; done) | (simp [*]; done), by repeat (first | exact Drawn0.refl _ | apply Drawn0.step)⟩
            · rw [if_neg c9] at H
              have c9b0 : (t216 == 12) = false := beq_eq_false_iff_ne.mpr c9
              have c9b1 : (t216 != 12) = true := bne_iff_ne.mpr c9
              obtain rfl := Option.some.inj H
              go_wp2
              go_ret
              exact ⟨by first | rfl | (simp; done) | (simp [*]; done), by repeat (first | exact Drawn0.refl _ | apply Drawn0.step)⟩

end Go.Proofs.Ythcndpdfcippiaa.Pr

