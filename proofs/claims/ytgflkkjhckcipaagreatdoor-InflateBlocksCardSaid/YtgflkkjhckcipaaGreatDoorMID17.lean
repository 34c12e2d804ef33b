-- Texts by hand and by programs of this session, joined (wip/tool/merge.py).
import Derived.Test.YtgflkkjhckcipaaGreatDoorMID15
import Derived.Test.YtgflkkjhckcipaaGreatDoorMID16
-- YtgflkkjhckcipaaGreatDoorPv3
set_option maxHeartbeats 16000000
set_option maxRecDepth 1000000
namespace Go.Proofs.YtgflkkjhckcipaaGreatDoor.Pv
open Go.RowKit Go.Proofs.YtgflkkjhckcipaaGreatDoorW.PrintWords Go.Proofs.YtgflkkjhckcipaaGreatDoorW.PrintLast Go.Proofs.YtgflkkjhckcipaaGreatDoorW.PrintMore
attribute [local go_sem] max2_int min2_int max_two min_two max_three min_three max_four min_four   -- for this text's walks alone
set_option linter.unusedVariables false
set_option linter.unusedSimpArgs false

mutual
def valiseref04_Read.j0 : Nat → List Int → Int → Bool → List Int → Int → Option (Int × Int × Int)
  | 0, _, _, _, _, _ => none
  | k + 1, x0, x2, x27, x121000, x121001 => if x27 = true then (some (0, 0, 2)) else ((valiseref04_Codes.f k x0).bind fun bt122 => (valiseref04_Read.l0 k x0 x2 bt122.1 0 1 x121000 x121001))
def valiseref04_Read.l0 : Nat → List Int → Int → List Int → Int → Int → List Int → Int → Option (Int × Int × Int)
  | 0, _, _, _, _, _, _, _ => none
  | k + 1, x0, x2, x9, x11, x12, x121000, x121001 => if x12 ≤ 15 then (if x2 = x121001 then (some (0, 0, 4)) else ((valiseref01_Bit.f x121000 x121001 x2).bind fun t126 => (valiseref04_Read.l1 k x0 (wrap64 (x2 + 1)) x9 (wrap64 ((wrap64 (2 * x11)) + t126)) x12 false 0 x121000 x121001))) else (some (0, 0, 13))
def valiseref04_Read.l1 : Nat → List Int → Int → List Int → Int → Int → Bool → Int → List Int → Int → Option (Int × Int × Int)
  | 0, _, _, _, _, _, _, _, _, _ => none
  | k + 1, x0, x2, x9, x11, x12, x13, x14, x121000, x121001 => if x14 < (x0.length : Int) then (if 0 ≤ x14 then (if (rd x0 x14) = x12 then (if x14 < (x9.length : Int) then (if (rd x9 x14) = x11 then (some (x14, x2, 0)) else (if x13 = true then (valiseref04_Read.l1 k x0 x2 x9 x11 x12 true (wrap64 (x14 + 1)) x121000 x121001) else (if (rd x0 x14) > 0 then ((valiseref04_begins.f (rd x9 x14) (rd x0 x14) x11 x12).bind fun t132 => (valiseref04_Read.l1 k x0 x2 x9 x11 x12 t132 (wrap64 (x14 + 1)) x121000 x121001)) else (valiseref04_Read.l1 k x0 x2 x9 x11 x12 false (wrap64 (x14 + 1)) x121000 x121001)))) else (none)) else (if x13 = true then (valiseref04_Read.l1 k x0 x2 x9 x11 x12 true (wrap64 (x14 + 1)) x121000 x121001) else (if (rd x0 x14) > 0 then (if x14 < (x9.length : Int) then ((valiseref04_begins.f (rd x9 x14) (rd x0 x14) x11 x12).bind fun t136 => (valiseref04_Read.l1 k x0 x2 x9 x11 x12 t136 (wrap64 (x14 + 1)) x121000 x121001)) else (none)) else (valiseref04_Read.l1 k x0 x2 x9 x11 x12 false (wrap64 (x14 + 1)) x121000 x121001)))) else (none)) else (if x13 = true then (valiseref04_Read.l0 k x0 x2 x9 x11 (wrap64 (x12 + 1)) x121000 x121001) else (some (0, 0, 13)))
end
def valiseref04_Read.f (k : Nat) (l0 : List Int) (l1_0 : List Int) (a1_1 : Int) (a2 : Int) : Option (Int × Int × Int) := (valiseref01_Right.f l1_0 a1_1).bind fun t121 => (if t121 = true then (if a2 < 0 then (valiseref04_Read.j0 k l0 a2 true l1_0 a1_1) else (valiseref04_Read.j0 k l0 a2 (decide (a2 > a1_1)) l1_0 a1_1)) else (valiseref04_Read.j0 k l0 a2 true l1_0 a1_1))
theorem valiseref04_Read.calls (k : Nat) (A0 : Option Addr) (c0 : Nat) (l0 : List Int) (A1_0 : Option Addr) (c1_0 : Nat) (l1_0 : List Int) (a1_1 : Int) (a2 : Int) (r1 : Int) (r2 : Int) (r3 : Int) (w : World) (hr0 : Kd.C (Kd.int .i64) w A0 l0.length l0) (hc0 : l0.length ≤ c0) (hr1_0 : Kd.C (Kd.int .u8) w A1_0 l1_0.length l1_0) (hc1_0 : l1_0.length ≤ c1_0) (h : valiseref04_Read.f k l0 l1_0 a1_1 a2 = some (r1, r2, r3)) :
    Calls Tryz.prog 54 #[.slice A0 l0.length c0, .agg #[.slice A1_0 l1_0.length c1_0, .int .i64 a1_1], .int .i64 a2] w fun e w' => e = .returned (.tuple #[.int .i64 r1, .int .i64 r2, .int .i64 r3]) ∧ Below w.heap.size w w' := by
  have hu43 := Tryz.underlying43; have HR0 := Ak hr0; have HC0 := Ak hc0; clear hr0 hc0; have HR1_0 := Ak hr1_0; have HC1_0 := Ak hc1_0; clear hr1_0 hc1_0; have HB := Ak (Below.refl w.heap.size w); have H : ((valiseref01_Right.f l1_0 a1_1).bind fun t121 => (if t121 = true then (if a2 < 0 then (valiseref04_Read.j0 k l0 a2 true l1_0 a1_1) else (valiseref04_Read.j0 k l0 a2 (decide (a2 > a1_1)) l1_0 a1_1)) else (valiseref04_Read.j0 k l0 a2 true l1_0 a1_1))) = some (r1, r2, r3) := h; clear h; have HC4 := Ak H; clear H; go_enter Tryz.func54, Tryz.ntmps54
  go_upto_region 1 with (((with_reducible refine gate_dst (N := 4) rfl ?_); refine box_event ?hg (N := 4) ?hd (cs := #[.slice A1_0 l1_0.length c1_0, .int .i64 a1_1]) (t := 43) ?hr ?_; (case hd => rfl); (case hg => rfl); (case hr => (go_simp; done)); intro gb120 hg w5 hbox hb; replace BK120 := Ak (hbox); replace GW120 := Ak ((by rw [hg]; exact (below_size bl_) : w.heap.size ≤ gb120)); replace GE120 := Ak ((by rw [hg]; exact (below_size bl_) : w.heap.size ≤ gb120)); replace HB := Ak (below_step bl_ hb); clear hb hbox hg))
  repeat (go_quiet (fail); go_upto_region 1 with (fail))
  go_cut [27] (fun v27 wc => ∃ (kq : Nat) (x27_3 : Bool), v27 = .bool x27_3 ∧ Aside0 (valiseref04_Read.j0 kq l0 a2 x27_3 l1_0 a1_1 = some (r1, r2, r3)) ∧ Aside0 (kq ≤ k) ∧ Aside0 (wc.heap[gb120]? = some (.cells #[(.slice A1_0 l1_0.length c1_0), .int .i64 a1_1] 43 (0, 0))) ∧ Aside0 (Below w.heap.size w wc))
  case first =>
    have H := HC4.out; clear HC4; replace H := Option.bind_eq_some_iff.mp H; obtain ⟨t121, A60, H⟩ := H; replace H : (if t121 = true then (if a2 < 0 then (valiseref04_Read.j0 k l0 a2 true l1_0 a1_1) else (valiseref04_Read.j0 k l0 a2 (decide (a2 > a1_1)) l1_0 a1_1)) else (valiseref04_Read.j0 k l0 a2 true l1_0 a1_1)) = some (r1, r2, r3) := H; have A6 := Ak A60; clear A60
    by_cases c7 : t121 = true
    rotate_left
    · replace c7 := Bool.eq_false_iff.mpr c7; subst c7
      have H1 : (valiseref04_Read.j0 k l0 a2 true l1_0 a1_1) = some (r1, r2, r3) := by rw [if_neg (show ¬ (false = true) by decide)] at H; exact H
      clear H; have H := H1; clear H1; have H' := Ak H; clear H; have hcz14_0 : w5.cell? ⟨gb120, 0, none⟩ = some (.slice A1_0 l1_0.length c1_0) := (blk_cell BK120.out 0).trans rfl; have hcz14_1 : w5.cell? ⟨gb120, 1, none⟩ = some (.int .i64 a1_1) := (blk_cell BK120.out 1).trans rfl; have hfz14_0 := blk_frozen BK120.out 0; have hfz14_1 := blk_frozen BK120.out 1
      go_wp2_with ((go_at_call 52; (with_reducible refine (valiseref01_Right.calls _ _ l1_0 a1_1 false _ ?side1 ?side2 A6.out).mono ?_); (case side1 => repeat (exact (Kd.C_below HR1_0.out HB.out))); (case side2 => exact HC1_0.out); rintro e w15 ⟨rfl, hb⟩; replace BK120 := Ak (blk_below (g := gb120) (o := .cells #[.slice A1_0 l1_0.length c1_0, .int .i64 a1_1] 43 (0, 0)) (by (with_reducible repeat (fail)); exact BK120.out) hb); replace HB := Ak (below_step (by repeat ((with_reducible exact HB.out))) hb); (try clear hb)))
      repeat (go_quiet (fail); try go_wp2_with (fail))
      go_meet
      case rel => exact ⟨_, (true), (by rfl), H', ⟨by omega⟩, ⟨by (with_reducible repeat (fail)); exact BK120.out⟩, ⟨by repeat ((with_reducible exact HB.out))⟩⟩
    subst c7
    have H1 : (if a2 < 0 then (valiseref04_Read.j0 k l0 a2 true l1_0 a1_1) else (valiseref04_Read.j0 k l0 a2 (decide (a2 > a1_1)) l1_0 a1_1)) = some (r1, r2, r3) := by rw [if_pos rfl] at H; exact H
    clear H; have H := H1; clear H1
    by_cases c8 : a2 < 0
    · rw [if_pos c8] at H; have c8b0 : decide (a2 < 0) = true := decide_eq_true c8; clear c8
      have H' := Ak H; clear H; have hcz9_0 : w5.cell? ⟨gb120, 0, none⟩ = some (.slice A1_0 l1_0.length c1_0) := (blk_cell BK120.out 0).trans rfl; have hcz9_1 : w5.cell? ⟨gb120, 1, none⟩ = some (.int .i64 a1_1) := (blk_cell BK120.out 1).trans rfl; have hfz9_0 := blk_frozen BK120.out 0; have hfz9_1 := blk_frozen BK120.out 1
      go_wp2_with ((go_at_call 52; (with_reducible refine (valiseref01_Right.calls _ _ l1_0 a1_1 true _ ?side1 ?side2 A6.out).mono ?_); (case side1 => repeat (exact (Kd.C_below HR1_0.out HB.out))); (case side2 => exact HC1_0.out); rintro e w10 ⟨rfl, hb⟩; replace BK120 := Ak (blk_below (g := gb120) (o := .cells #[.slice A1_0 l1_0.length c1_0, .int .i64 a1_1] 43 (0, 0)) (by (with_reducible repeat (fail)); exact BK120.out) hb); replace HB := Ak (below_step (by repeat ((with_reducible exact HB.out))) hb); (try clear hb)))
      repeat (go_quiet (fail); try go_wp2_with (fail))
      go_meet
      case rel => exact ⟨_, (true), (by rfl), H', ⟨by omega⟩, ⟨by (with_reducible repeat (fail)); exact BK120.out⟩, ⟨by repeat ((with_reducible exact HB.out))⟩⟩
    rw [if_neg c8] at H; have c8b0 : decide (a2 < 0) = false := decide_eq_false c8; clear c8
    have H' := Ak H; clear H; have hcz11_0 : w5.cell? ⟨gb120, 0, none⟩ = some (.slice A1_0 l1_0.length c1_0) := (blk_cell BK120.out 0).trans rfl; have hcz11_1 : w5.cell? ⟨gb120, 1, none⟩ = some (.int .i64 a1_1) := (blk_cell BK120.out 1).trans rfl; have hfz11_0 := blk_frozen BK120.out 0; have hfz11_1 := blk_frozen BK120.out 1
    go_wp2_with ((go_at_call 52; (with_reducible refine (valiseref01_Right.calls _ _ l1_0 a1_1 true _ ?side1 ?side2 A6.out).mono ?_); (case side1 => repeat (exact (Kd.C_below HR1_0.out HB.out))); (case side2 => exact HC1_0.out); rintro e w12 ⟨rfl, hb⟩; replace BK120 := Ak (blk_below (g := gb120) (o := .cells #[.slice A1_0 l1_0.length c1_0, .int .i64 a1_1] 43 (0, 0)) (by (with_reducible repeat (fail)); exact BK120.out) hb); replace HB := Ak (below_step (by repeat ((with_reducible exact HB.out))) hb); (try clear hb); have hcz13_0 : w12.cell? ⟨gb120, 0, none⟩ = some (.slice A1_0 l1_0.length c1_0) := (blk_cell BK120.out 0).trans rfl; have hcz13_1 : w12.cell? ⟨gb120, 1, none⟩ = some (.int .i64 a1_1) := (blk_cell BK120.out 1).trans rfl; have hfz13_0 := blk_frozen BK120.out 0; have hfz13_1 := blk_frozen BK120.out 1))
    repeat (go_quiet (fail); try go_wp2_with (fail))
    go_meet
    case rel => exact ⟨_, (decide (a2 > a1_1)), (by rfl), H', ⟨by omega⟩, ⟨by (with_reducible repeat (fail)); exact BK120.out⟩, ⟨by repeat ((with_reducible exact HB.out))⟩⟩
  case rest =>
    clear HC4
    obtain ⟨kq, x27_3, rfl, HA, HJ3, BK120, HB⟩ := hcut
    cases kq with
    | zero => exact absurd HA.out (by simp [valiseref04_Read.j0])
    | succ kj3 => ?_
    have H := HA.out; clear HA; simp only [valiseref04_Read.j0] at H
    by_cases c16 : x27_3 = true
    · subst c16
      have H1 : (some (0, 0, 2)) = some (r1, r2, r3) := by rw [if_pos rfl] at H; exact H
      clear H; have H := H1; clear H1; simp only [Option.some.injEq, Prod.mk.injEq] at H; obtain ⟨rfl, rfl, rfl⟩ := H; go_wp2
      repeat (go_quiet (fail); try go_wp2)
      go_ret3; exact ⟨by rfl, by repeat ((with_reducible exact HB.out))⟩
    replace c16 := Bool.eq_false_iff.mpr c16; subst c16
    have H1 : ((valiseref04_Codes.f kj3 l0).bind fun bt122 => (valiseref04_Read.l0 kj3 l0 a2 bt122.1 0 1 l1_0 a1_1)) = some (r1, r2, r3) := by rw [if_neg (show ¬ (false = true) by decide)] at H; exact H
    clear H; have H := H1; clear H1; replace H := Option.bind_eq_some_iff.mp H; obtain ⟨⟨t122, t123⟩, A170, H⟩ := H; replace H : (valiseref04_Read.l0 kj3 l0 a2 t122 0 1 l1_0 a1_1) = some (r1, r2, r3) := H; have A17 := Ak A170; clear A170; have H' := Ak H; clear H
    go_wp2_with ((go_at_call 76; (with_reducible refine (valiseref04_Codes.calls kj3 _ _ l0 t122 t123 _ ?side1 ?side2 A17.out).mono ?_); (case side1 => repeat (exact (Kd.C_below HR0.out HB.out))); (case side2 => exact HC0.out); rintro e w18 ⟨v124, rfl, ho0, hb⟩; replace HO125 := Ak (Kd.R_lower ho0 (below_size (by repeat ((with_reducible exact HB.out))))); replace BK120 := Ak (blk_below (g := gb120) (o := .cells #[.slice A1_0 l1_0.length c1_0, .int .i64 a1_1] 43 (0, 0)) (by (with_reducible repeat (fail)); exact BK120.out) hb); replace HB := Ak (below_step (by repeat ((with_reducible exact HB.out))) hb); (try clear hb); (try clear ho0)))
    repeat (go_quiet (fail); try go_wp2_with (fail))
    go_loopg [2, 11, 12] kj3 (fun kq v2 v11 v12 w' => ∃ (x2_2 : Int) (x11_2 : Int) (x12_2 : Int), v2 = .int .i64 x2_2 ∧ v11 = .int .i64 x11_2 ∧ v12 = .int .i64 x12_2 ∧ Aside0 (valiseref04_Read.l0 kq l0 x2_2 t122 x11_2 x12_2 l1_0 a1_1 = some (r1, r2, r3)) ∧ Aside0 (kq ≤ kj3) ∧ Aside0 (Kd.R (Kd.int .i64) 3 w' w.heap.size (fun _ => True) v124 t122) ∧ Aside0 (w'.heap[gb120]? = some (.cells #[(.slice A1_0 l1_0.length c1_0), .int .i64 a1_1] 43 (0, 0))) ∧ Aside0 (Below w.heap.size w w'))
    case atStart => exact ⟨(a2), (0), (1), (by rfl), (by rfl), (by rfl), H', ⟨Nat.le_refl _⟩, ⟨by (with_reducible repeat (fail)); exact HO125.out⟩, ⟨by (with_reducible repeat (fail)); exact BK120.out⟩, ⟨by repeat ((with_reducible exact HB.out))⟩⟩
    case round =>
      clear H'
      obtain ⟨x2_2, x11_2, x12_2, rfl, rfl, rfl, HA, HK2, HO_9, BK120, HB⟩ := hrel
      cases gk with
      | zero => exact absurd HA.out (by simp [valiseref04_Read.l0])
      | succ k2 => ?_
      have H := HA.out; clear HA; simp only [valiseref04_Read.l0] at H
      by_cases c19 : x12_2 ≤ 15
      rotate_left
      · rw [if_neg c19] at H; have c19b0 : decide (x12_2 ≤ 15) = false := decide_eq_false c19; clear c19; simp only [Option.some.injEq, Prod.mk.injEq] at H; obtain ⟨rfl, rfl, rfl⟩ := H; go_wp2
        repeat (go_quiet (fail); try go_wp2)
        go_ret3; exact ⟨by rfl, by repeat ((with_reducible exact HB.out))⟩
      rw [if_pos c19] at H; have c19b0 : decide (x12_2 ≤ 15) = true := decide_eq_true c19; clear c19
      by_cases c20 : x2_2 = a1_1
      · rw [if_pos c20] at H; have c20b0 : (x2_2 == a1_1) = true := beq_iff_eq.mpr c20; have c20b1 : (x2_2 != a1_1) = false := bne_eq_false_iff_eq.mpr c20; clear c20; simp only [Option.some.injEq, Prod.mk.injEq] at H; obtain ⟨rfl, rfl, rfl⟩ := H; have hcz21_0 : wr.cell? ⟨gb120, 0, none⟩ = some (.slice A1_0 l1_0.length c1_0) := (blk_cell BK120.out 0).trans rfl; have hcz21_1 : wr.cell? ⟨gb120, 1, none⟩ = some (.int .i64 a1_1) := (blk_cell BK120.out 1).trans rfl; have hfz21_0 := blk_frozen BK120.out 0; have hfz21_1 := blk_frozen BK120.out 1; go_wp2
        repeat (go_quiet (fail); try go_wp2)
        go_ret3; exact ⟨by rfl, by repeat ((with_reducible exact HB.out))⟩
      rw [if_neg c20] at H; have c20b0 : (x2_2 == a1_1) = false := beq_eq_false_iff_ne.mpr c20; have c20b1 : (x2_2 != a1_1) = true := bne_iff_ne.mpr c20; replace H := Option.bind_eq_some_iff.mp H; obtain ⟨t126, A220, H⟩ := H; replace H : (valiseref04_Read.l1 k2 l0 (wrap64 (x2_2 + 1)) t122 (wrap64 ((wrap64 (2 * x11_2)) + t126)) x12_2 false 0 l1_0 a1_1) = some (r1, r2, r3) := H; have A22 := Ak A220; clear A220; have H' := Ak H; clear H; have hcz23_0 : wr.cell? ⟨gb120, 0, none⟩ = some (.slice A1_0 l1_0.length c1_0) := (blk_cell BK120.out 0).trans rfl; have hcz23_1 : wr.cell? ⟨gb120, 1, none⟩ = some (.int .i64 a1_1) := (blk_cell BK120.out 1).trans rfl; have hfz23_0 := blk_frozen BK120.out 0; have hfz23_1 := blk_frozen BK120.out 1
      go_wp2_with ((go_at_call 53; (with_reducible refine (valiseref01_Bit.calls _ _ l1_0 a1_1 x2_2 t126 _ ?side1 ?side2 A22.out).mono ?_); (case side1 => repeat (exact (Kd.C_below HR1_0.out HB.out))); (case side2 => exact HC1_0.out); rintro e w24 ⟨rfl, hb⟩; replace HO_9 := Ak (Kd.R_below (by (with_reducible repeat (fail)); exact HO_9.out) hb); replace BK120 := Ak (blk_below (g := gb120) (o := .cells #[.slice A1_0 l1_0.length c1_0, .int .i64 a1_1] 43 (0, 0)) (by (with_reducible repeat (fail)); exact BK120.out) hb); replace HB := Ak (below_step (by repeat ((with_reducible exact HB.out))) hb); (try clear hb)))
      repeat (go_quiet (fail); try go_wp2_with (fail))
      go_loopg [13, 14] k2 (fun kq v13 v14 w' => ∃ (x13_3 : Bool) (x14_3 : Int), v13 = .bool x13_3 ∧ v14 = .int .i64 x14_3 ∧ Aside0 (valiseref04_Read.l1 kq l0 (wrap64 (x2_2 + 1)) t122 (wrap64 ((wrap64 (2 * x11_2)) + t126)) x12_2 x13_3 x14_3 l1_0 a1_1 = some (r1, r2, r3)) ∧ Aside0 (kq ≤ k2) ∧ Aside0 (Kd.R (Kd.int .i64) 3 w' w.heap.size (fun _ => True) v124 t122) ∧ Aside0 (w'.heap[gb120]? = some (.cells #[(.slice A1_0 l1_0.length c1_0), .int .i64 a1_1] 43 (0, 0))) ∧ Aside0 (Below w.heap.size w w'))
      case atStart => exact ⟨(false), (0), (by rfl), (by rfl), H', ⟨Nat.le_refl _⟩, ⟨by (with_reducible repeat (fail)); exact HO_9.out⟩, ⟨by (with_reducible repeat (fail)); exact BK120.out⟩, ⟨by repeat ((with_reducible exact HB.out))⟩⟩
      case round =>
        clear H'
        clear c19b0 c20 c20b0 c20b1 hcz23_0 hcz23_1 hfz23_0 hfz23_1
        obtain ⟨x13_3, x14_3, rfl, rfl, HA, HK3, HO_9, BK120, HB⟩ := hrel
        cases gk with
        | zero => exact absurd HA.out (by simp [valiseref04_Read.l1])
        | succ k3 => ?_
        have H := HA.out; clear HA; simp only [valiseref04_Read.l1] at H
        by_cases c25 : x14_3 < (l0.length : Int)
        rotate_left
        · rw [if_neg c25] at H; have c25b0 : decide (x14_3 < (l0.length : Int)) = false := decide_eq_false c25; clear c25
          by_cases c42 : x13_3 = true
          · subst c42
            have H1 : (valiseref04_Read.l0 k3 l0 (wrap64 (x2_2 + 1)) t122 (wrap64 ((wrap64 (2 * x11_2)) + t126)) (wrap64 (x12_2 + 1)) l1_0 a1_1) = some (r1, r2, r3) := by rw [if_pos rfl] at H; exact H
            clear H; have H := H1; clear H1; have H' := Ak H; clear H; go_wp2
            repeat (go_quiet (fail); try go_wp2)
            go_roundg k3
            case measure => have := HJ3.out; have := HK2.out; have := HK3.out; omega
            case rel => exact ⟨((wrap64 (x2_2 + 1))), ((wrap64 ((wrap64 (2 * x11_2)) + t126))), (wrap64 (x12_2 + 1)), (by rfl), (by rfl), (by rfl), H', ⟨by have := HJ3.out; have := HK2.out; have := HK3.out; omega⟩, ⟨by (with_reducible repeat (fail)); exact HO_9.out⟩, ⟨by (with_reducible repeat (fail)); exact BK120.out⟩, ⟨by repeat ((with_reducible exact HB.out))⟩⟩
          replace c42 := Bool.eq_false_iff.mpr c42; subst c42
          have H1 : (some (0, 0, 13)) = some (r1, r2, r3) := by rw [if_neg (show ¬ (false = true) by decide)] at H; exact H
          clear H; have H := H1; clear H1; simp only [Option.some.injEq, Prod.mk.injEq] at H; obtain ⟨rfl, rfl, rfl⟩ := H; go_wp2
          repeat (go_quiet (fail); try go_wp2)
          go_ret3; exact ⟨by rfl, by repeat ((with_reducible exact HB.out))⟩
        rw [if_pos c25] at H; have c25b0 : decide (x14_3 < (l0.length : Int)) = true := decide_eq_true c25; clear c25
        by_cases c26 : 0 ≤ x14_3
        rotate_left
        · rw [if_neg c26] at H; exact absurd H (by simp)
        rw [if_pos c26] at H; have c26b0 : decide (0 ≤ x14_3) = true := decide_eq_true c26; clear c26
        by_cases c27 : (rd l0 x14_3) = x12_2
        rotate_left
        · rw [if_neg c27] at H; have c27b0 : ((rd l0 x14_3) == x12_2) = false := beq_eq_false_iff_ne.mpr c27; have c27b1 : ((rd l0 x14_3) != x12_2) = true := bne_iff_ne.mpr c27
          by_cases c37 : x13_3 = true
          · subst c37
            have H1 : (valiseref04_Read.l1 k3 l0 (wrap64 (x2_2 + 1)) t122 (wrap64 ((wrap64 (2 * x11_2)) + t126)) x12_2 true (wrap64 (x14_3 + 1)) l1_0 a1_1) = some (r1, r2, r3) := by rw [if_pos rfl] at H; exact H
            clear H; have H := H1; clear H1; have H' := Ak H; clear H; have p127 : 0 ≤ (x14_3 : Int) := of_decide_eq_true (by (with_reducible assumption)); have q127 : x14_3 < (l0.length : Int) := of_decide_eq_true (by (with_reducible assumption)); obtain ⟨ad127, e127, hx127_0⟩ := Kd.at_int HR0.out x14_3 p127 q127; cases e127; replace hx127_0 := (HB.out.cell (World.block_lt_of_cell? w _ hx127_0)).trans hx127_0; replace p127 := eq_true p127; replace q127 := eq_true q127; go_wp2
            repeat (go_quiet (fail); try go_wp2)
            go_roundg k3
            case measure => have := HJ3.out; have := HK2.out; have := HK3.out; omega
            case rel => exact ⟨(true), (wrap64 (x14_3 + 1)), (by rfl), (by rfl), H', ⟨by have := HJ3.out; have := HK2.out; have := HK3.out; omega⟩, ⟨by (with_reducible repeat (apply Kd.R_drewN)); exact HO_9.out⟩, ⟨by (with_reducible repeat (refine blk_drewN ?_ _)); exact BK120.out⟩, ⟨by repeat ((with_reducible first | exact HB.out | apply pw_below_drewN))⟩⟩
          replace c37 := Bool.eq_false_iff.mpr c37; subst c37
          have H1 : (if (rd l0 x14_3) > 0 then (if x14_3 < (t122.length : Int) then ((valiseref04_begins.f (rd t122 x14_3) (rd l0 x14_3) (wrap64 ((wrap64 (2 * x11_2)) + t126)) x12_2).bind fun t136 => (valiseref04_Read.l1 k3 l0 (wrap64 (x2_2 + 1)) t122 (wrap64 ((wrap64 (2 * x11_2)) + t126)) x12_2 t136 (wrap64 (x14_3 + 1)) l1_0 a1_1)) else (none)) else (valiseref04_Read.l1 k3 l0 (wrap64 (x2_2 + 1)) t122 (wrap64 ((wrap64 (2 * x11_2)) + t126)) x12_2 false (wrap64 (x14_3 + 1)) l1_0 a1_1)) = some (r1, r2, r3) := by rw [if_neg (show ¬ (false = true) by decide)] at H; exact H
          clear H; have H := H1; clear H1
          by_cases c38 : (rd l0 x14_3) > 0
          rotate_left
          · rw [if_neg c38] at H; have c38b0 : decide (0 < (rd l0 x14_3)) = false := decide_eq_false c38; clear c38; have H' := Ak H; clear H; have p127 : 0 ≤ (x14_3 : Int) := of_decide_eq_true (by (with_reducible assumption)); have q127 : x14_3 < (l0.length : Int) := of_decide_eq_true (by (with_reducible assumption)); obtain ⟨ad127, e127, hx127_0⟩ := Kd.at_int HR0.out x14_3 p127 q127; cases e127; replace hx127_0 := (HB.out.cell (World.block_lt_of_cell? w _ hx127_0)).trans hx127_0; replace p127 := eq_true p127; replace q127 := eq_true q127; have p133 : 0 ≤ (x14_3 : Int) := of_decide_eq_true (by (with_reducible assumption)); have q133 : x14_3 < (l0.length : Int) := of_decide_eq_true (by (with_reducible assumption)); obtain ⟨ad133, e133, hx133_0⟩ := Kd.at_int HR0.out x14_3 p133 q133; obtain rfl : ad127 = ad133 := (by injection e133); replace hx133_0 := (HB.out.cell (World.block_lt_of_cell? w _ hx133_0)).trans hx133_0; replace p133 := eq_true p133; replace q133 := eq_true q133; go_wp2
            repeat (go_quiet (fail); try go_wp2)
            go_roundg k3
            case measure => have := HJ3.out; have := HK2.out; have := HK3.out; omega
            case rel => exact ⟨(false), (wrap64 (x14_3 + 1)), (by rfl), (by rfl), H', ⟨by have := HJ3.out; have := HK2.out; have := HK3.out; omega⟩, ⟨by (with_reducible repeat (apply Kd.R_drewN)); exact HO_9.out⟩, ⟨by (with_reducible repeat (refine blk_drewN ?_ _)); exact BK120.out⟩, ⟨by repeat ((with_reducible first | exact HB.out | apply pw_below_drewN))⟩⟩
          rw [if_pos c38] at H; have c38b0 : decide (0 < (rd l0 x14_3)) = true := decide_eq_true c38; clear c38
          by_cases c39 : x14_3 < (t122.length : Int)
          rotate_left
          · rw [if_neg c39] at H; exact absurd H (by simp)
          rw [if_pos c39] at H; have c39b0 : decide (x14_3 < (t122.length : Int)) = true := decide_eq_true c39; clear c39; replace H := Option.bind_eq_some_iff.mp H; obtain ⟨t136, A400, H⟩ := H; replace H : (valiseref04_Read.l1 k3 l0 (wrap64 (x2_2 + 1)) t122 (wrap64 ((wrap64 (2 * x11_2)) + t126)) x12_2 t136 (wrap64 (x14_3 + 1)) l1_0 a1_1) = some (r1, r2, r3) := H; have A40 := Ak A400; clear A400; have H' := Ak H; clear H; have p127 : 0 ≤ (x14_3 : Int) := of_decide_eq_true (by (with_reducible assumption)); have q127 : x14_3 < (l0.length : Int) := of_decide_eq_true (by (with_reducible assumption)); obtain ⟨ad127, e127, hx127_0⟩ := Kd.at_int HR0.out x14_3 p127 q127; cases e127; replace hx127_0 := (HB.out.cell (World.block_lt_of_cell? w _ hx127_0)).trans hx127_0; replace p127 := eq_true p127; replace q127 := eq_true q127; have p133 : 0 ≤ (x14_3 : Int) := of_decide_eq_true (by (with_reducible assumption)); have q133 : x14_3 < (l0.length : Int) := of_decide_eq_true (by (with_reducible assumption)); obtain ⟨ad133, e133, hx133_0⟩ := Kd.at_int HR0.out x14_3 p133 q133; obtain rfl : ad127 = ad133 := (by injection e133); replace hx133_0 := (HB.out.cell (World.block_lt_of_cell? w _ hx133_0)).trans hx133_0; replace p133 := eq_true p133; replace q133 := eq_true q133; obtain ⟨Ao41, co41, eo41⟩ := Kd.R_slice HO_9.out; subst eo41; have p134 : 0 ≤ (x14_3 : Int) := of_decide_eq_true (by (with_reducible assumption)); have q134 : x14_3 < (t122.length : Int) := of_decide_eq_true (by (with_reducible assumption)); obtain ⟨ad134, e134, hx134_0⟩ := Kd.at_int (Kd.R_reads' HO_9.out).2.2 x14_3 p134 q134; cases e134; replace p134 := eq_true p134; replace q134 := eq_true q134; have p135 : 0 ≤ (x14_3 : Int) := of_decide_eq_true (by (with_reducible assumption)); have q135 : x14_3 < (l0.length : Int) := of_decide_eq_true (by (with_reducible assumption)); obtain ⟨ad135, e135, hx135_0⟩ := Kd.at_int HR0.out x14_3 p135 q135; obtain rfl : ad127 = ad135 := (by injection e135); replace hx135_0 := (HB.out.cell (World.block_lt_of_cell? w _ hx135_0)).trans hx135_0; replace p135 := eq_true p135; replace q135 := eq_true q135
          go_wp2_with (fail)
          repeat (go_quiet ((go_at_call 77; (with_reducible refine (valiseref04_begins.calls (rd t122 x14_3) (rd l0 x14_3) (wrap64 ((wrap64 (2 * x11_2)) + t126)) x12_2 t136 _ A40.out).mono ?_); rintro e w' ⟨rfl, ⟨nd, rfl⟩⟩; (try exact ⟨rfl, _, World.drewN_drewN _ _ _⟩))); try go_wp2_with (fail))
          go_roundg k3
          case measure => have := HJ3.out; have := HK2.out; have := HK3.out; omega
          case rel => exact ⟨(t136), (wrap64 (x14_3 + 1)), (by rfl), (by rfl), H', ⟨by have := HJ3.out; have := HK2.out; have := HK3.out; omega⟩, ⟨by (with_reducible repeat (apply Kd.R_drewN)); exact HO_9.out⟩, ⟨by (with_reducible repeat (refine blk_drewN ?_ _)); exact BK120.out⟩, ⟨by repeat ((with_reducible first | exact HB.out | apply pw_below_drewN))⟩⟩
        rw [if_pos c27] at H; have c27b0 : ((rd l0 x14_3) == x12_2) = true := beq_iff_eq.mpr c27; have c27b1 : ((rd l0 x14_3) != x12_2) = false := bne_eq_false_iff_eq.mpr c27; clear c27
        by_cases c28 : x14_3 < (t122.length : Int)
        rotate_left
        · rw [if_neg c28] at H; exact absurd H (by simp)
        rw [if_pos c28] at H; have c28b0 : decide (x14_3 < (t122.length : Int)) = true := decide_eq_true c28; clear c28
        by_cases c29 : (rd t122 x14_3) = (wrap64 ((wrap64 (2 * x11_2)) + t126))
        · rw [if_pos c29] at H; have c29b0 : ((rd t122 x14_3) == (wrap64 ((wrap64 (2 * x11_2)) + t126))) = true := beq_iff_eq.mpr c29; have c29b1 : ((rd t122 x14_3) != (wrap64 ((wrap64 (2 * x11_2)) + t126))) = false := bne_eq_false_iff_eq.mpr c29; clear c29; simp only [Option.some.injEq, Prod.mk.injEq] at H; obtain ⟨rfl, rfl, rfl⟩ := H; have p127 : 0 ≤ (x14_3 : Int) := of_decide_eq_true (by (with_reducible assumption)); have q127 : x14_3 < (l0.length : Int) := of_decide_eq_true (by (with_reducible assumption)); obtain ⟨ad127, e127, hx127_0⟩ := Kd.at_int HR0.out x14_3 p127 q127; cases e127; replace hx127_0 := (HB.out.cell (World.block_lt_of_cell? w _ hx127_0)).trans hx127_0; replace p127 := eq_true p127; replace q127 := eq_true q127; obtain ⟨Ao30, co30, eo30⟩ := Kd.R_slice HO_9.out; subst eo30; have p128 : 0 ≤ (x14_3 : Int) := of_decide_eq_true (by (with_reducible assumption)); have q128 : x14_3 < (t122.length : Int) := of_decide_eq_true (by (with_reducible assumption)); obtain ⟨ad128, e128, hx128_0⟩ := Kd.at_int (Kd.R_reads' HO_9.out).2.2 x14_3 p128 q128; cases e128; replace p128 := eq_true p128; replace q128 := eq_true q128; go_wp2
          repeat (go_quiet (fail); try go_wp2)
          go_ret3; exact ⟨by rfl, by repeat ((with_reducible exact HB.out))⟩
        rw [if_neg c29] at H; have c29b0 : ((rd t122 x14_3) == (wrap64 ((wrap64 (2 * x11_2)) + t126))) = false := beq_eq_false_iff_ne.mpr c29; have c29b1 : ((rd t122 x14_3) != (wrap64 ((wrap64 (2 * x11_2)) + t126))) = true := bne_iff_ne.mpr c29
        by_cases c31 : x13_3 = true
        · subst c31
          have H1 : (valiseref04_Read.l1 k3 l0 (wrap64 (x2_2 + 1)) t122 (wrap64 ((wrap64 (2 * x11_2)) + t126)) x12_2 true (wrap64 (x14_3 + 1)) l1_0 a1_1) = some (r1, r2, r3) := by rw [if_pos rfl] at H; exact H
          clear H; have H := H1; clear H1; have H' := Ak H; clear H; have p127 : 0 ≤ (x14_3 : Int) := of_decide_eq_true (by (with_reducible assumption)); have q127 : x14_3 < (l0.length : Int) := of_decide_eq_true (by (with_reducible assumption)); obtain ⟨ad127, e127, hx127_0⟩ := Kd.at_int HR0.out x14_3 p127 q127; cases e127; replace hx127_0 := (HB.out.cell (World.block_lt_of_cell? w _ hx127_0)).trans hx127_0; replace p127 := eq_true p127; replace q127 := eq_true q127; obtain ⟨Ao32, co32, eo32⟩ := Kd.R_slice HO_9.out; subst eo32; have p128 : 0 ≤ (x14_3 : Int) := of_decide_eq_true (by (with_reducible assumption)); have q128 : x14_3 < (t122.length : Int) := of_decide_eq_true (by (with_reducible assumption)); obtain ⟨ad128, e128, hx128_0⟩ := Kd.at_int (Kd.R_reads' HO_9.out).2.2 x14_3 p128 q128; cases e128; replace p128 := eq_true p128; replace q128 := eq_true q128; go_wp2
          repeat (go_quiet (fail); try go_wp2)
          go_roundg k3
          case measure => have := HJ3.out; have := HK2.out; have := HK3.out; omega
          case rel => exact ⟨(true), (wrap64 (x14_3 + 1)), (by rfl), (by rfl), H', ⟨by have := HJ3.out; have := HK2.out; have := HK3.out; omega⟩, ⟨by (with_reducible repeat (apply Kd.R_drewN)); exact HO_9.out⟩, ⟨by (with_reducible repeat (refine blk_drewN ?_ _)); exact BK120.out⟩, ⟨by repeat ((with_reducible first | exact HB.out | apply pw_below_drewN))⟩⟩
        replace c31 := Bool.eq_false_iff.mpr c31; subst c31
        have H1 : (if (rd l0 x14_3) > 0 then ((valiseref04_begins.f (rd t122 x14_3) (rd l0 x14_3) (wrap64 ((wrap64 (2 * x11_2)) + t126)) x12_2).bind fun t132 => (valiseref04_Read.l1 k3 l0 (wrap64 (x2_2 + 1)) t122 (wrap64 ((wrap64 (2 * x11_2)) + t126)) x12_2 t132 (wrap64 (x14_3 + 1)) l1_0 a1_1)) else (valiseref04_Read.l1 k3 l0 (wrap64 (x2_2 + 1)) t122 (wrap64 ((wrap64 (2 * x11_2)) + t126)) x12_2 false (wrap64 (x14_3 + 1)) l1_0 a1_1)) = some (r1, r2, r3) := by rw [if_neg (show ¬ (false = true) by decide)] at H; exact H
        clear H; have H := H1; clear H1
        by_cases c33 : (rd l0 x14_3) > 0
        · rw [if_pos c33] at H; have c33b0 : decide (0 < (rd l0 x14_3)) = true := decide_eq_true c33; clear c33; replace H := Option.bind_eq_some_iff.mp H; obtain ⟨t132, A340, H⟩ := H; replace H : (valiseref04_Read.l1 k3 l0 (wrap64 (x2_2 + 1)) t122 (wrap64 ((wrap64 (2 * x11_2)) + t126)) x12_2 t132 (wrap64 (x14_3 + 1)) l1_0 a1_1) = some (r1, r2, r3) := H; have A34 := Ak A340; clear A340; have H' := Ak H; clear H; have p127 : 0 ≤ (x14_3 : Int) := of_decide_eq_true (by (with_reducible assumption)); have q127 : x14_3 < (l0.length : Int) := of_decide_eq_true (by (with_reducible assumption)); obtain ⟨ad127, e127, hx127_0⟩ := Kd.at_int HR0.out x14_3 p127 q127; cases e127; replace hx127_0 := (HB.out.cell (World.block_lt_of_cell? w _ hx127_0)).trans hx127_0; replace p127 := eq_true p127; replace q127 := eq_true q127; obtain ⟨Ao35, co35, eo35⟩ := Kd.R_slice HO_9.out; subst eo35; have p128 : 0 ≤ (x14_3 : Int) := of_decide_eq_true (by (with_reducible assumption)); have q128 : x14_3 < (t122.length : Int) := of_decide_eq_true (by (with_reducible assumption)); obtain ⟨ad128, e128, hx128_0⟩ := Kd.at_int (Kd.R_reads' HO_9.out).2.2 x14_3 p128 q128; cases e128; replace p128 := eq_true p128; replace q128 := eq_true q128; have p129 : 0 ≤ (x14_3 : Int) := of_decide_eq_true (by (with_reducible assumption)); have q129 : x14_3 < (l0.length : Int) := of_decide_eq_true (by (with_reducible assumption)); obtain ⟨ad129, e129, hx129_0⟩ := Kd.at_int HR0.out x14_3 p129 q129; obtain rfl : ad127 = ad129 := (by injection e129); replace hx129_0 := (HB.out.cell (World.block_lt_of_cell? w _ hx129_0)).trans hx129_0; replace p129 := eq_true p129; replace q129 := eq_true q129; have p130 : 0 ≤ (x14_3 : Int) := of_decide_eq_true (by (with_reducible assumption)); have q130 : x14_3 < (t122.length : Int) := of_decide_eq_true (by (with_reducible assumption)); obtain ⟨ad130, e130, hx130_0⟩ := Kd.at_int (Kd.R_reads' HO_9.out).2.2 x14_3 p130 q130; obtain rfl : ad128 = ad130 := (by injection e130); replace p130 := eq_true p130; replace q130 := eq_true q130; have p131 : 0 ≤ (x14_3 : Int) := of_decide_eq_true (by (with_reducible assumption)); have q131 : x14_3 < (l0.length : Int) := of_decide_eq_true (by (with_reducible assumption)); obtain ⟨ad131, e131, hx131_0⟩ := Kd.at_int HR0.out x14_3 p131 q131; obtain rfl : ad127 = ad131 := (by injection e131); replace hx131_0 := (HB.out.cell (World.block_lt_of_cell? w _ hx131_0)).trans hx131_0; replace p131 := eq_true p131; replace q131 := eq_true q131
          go_wp2_with (fail)
          repeat (go_quiet ((go_at_call 77; (with_reducible refine (valiseref04_begins.calls (rd t122 x14_3) (rd l0 x14_3) (wrap64 ((wrap64 (2 * x11_2)) + t126)) x12_2 t132 _ A34.out).mono ?_); rintro e w' ⟨rfl, ⟨nd, rfl⟩⟩; (try exact ⟨rfl, _, World.drewN_drewN _ _ _⟩))); try go_wp2_with (fail))
          go_roundg k3
          case measure => have := HJ3.out; have := HK2.out; have := HK3.out; omega
          case rel => exact ⟨(t132), (wrap64 (x14_3 + 1)), (by rfl), (by rfl), H', ⟨by have := HJ3.out; have := HK2.out; have := HK3.out; omega⟩, ⟨by (with_reducible repeat (apply Kd.R_drewN)); exact HO_9.out⟩, ⟨by (with_reducible repeat (refine blk_drewN ?_ _)); exact BK120.out⟩, ⟨by repeat ((with_reducible first | exact HB.out | apply pw_below_drewN))⟩⟩
        rw [if_neg c33] at H; have c33b0 : decide (0 < (rd l0 x14_3)) = false := decide_eq_false c33; clear c33; have H' := Ak H; clear H; have p127 : 0 ≤ (x14_3 : Int) := of_decide_eq_true (by (with_reducible assumption)); have q127 : x14_3 < (l0.length : Int) := of_decide_eq_true (by (with_reducible assumption)); obtain ⟨ad127, e127, hx127_0⟩ := Kd.at_int HR0.out x14_3 p127 q127; cases e127; replace hx127_0 := (HB.out.cell (World.block_lt_of_cell? w _ hx127_0)).trans hx127_0; replace p127 := eq_true p127; replace q127 := eq_true q127; obtain ⟨Ao36, co36, eo36⟩ := Kd.R_slice HO_9.out; subst eo36; have p128 : 0 ≤ (x14_3 : Int) := of_decide_eq_true (by (with_reducible assumption)); have q128 : x14_3 < (t122.length : Int) := of_decide_eq_true (by (with_reducible assumption)); obtain ⟨ad128, e128, hx128_0⟩ := Kd.at_int (Kd.R_reads' HO_9.out).2.2 x14_3 p128 q128; cases e128; replace p128 := eq_true p128; replace q128 := eq_true q128; have p129 : 0 ≤ (x14_3 : Int) := of_decide_eq_true (by (with_reducible assumption)); have q129 : x14_3 < (l0.length : Int) := of_decide_eq_true (by (with_reducible assumption)); obtain ⟨ad129, e129, hx129_0⟩ := Kd.at_int HR0.out x14_3 p129 q129; obtain rfl : ad127 = ad129 := (by injection e129); replace hx129_0 := (HB.out.cell (World.block_lt_of_cell? w _ hx129_0)).trans hx129_0; replace p129 := eq_true p129; replace q129 := eq_true q129; go_wp2
        repeat (go_quiet (fail); try go_wp2)
        go_roundg k3
        case measure => have := HJ3.out; have := HK2.out; have := HK3.out; omega
        case rel => exact ⟨(false), (wrap64 (x14_3 + 1)), (by rfl), (by rfl), H', ⟨by have := HJ3.out; have := HK2.out; have := HK3.out; omega⟩, ⟨by (with_reducible repeat (apply Kd.R_drewN)); exact HO_9.out⟩, ⟨by (with_reducible repeat (refine blk_drewN ?_ _)); exact BK120.out⟩, ⟨by repeat ((with_reducible first | exact HB.out | apply pw_below_drewN))⟩⟩

mutual
def valiseref04_New.l0 : Nat → List Int → Int → Int → Int → Int → Option (Int)
  | 0, _, _, _, _, _ => none
  | k + 1, x0, x3, x4, x5, x6 => if x6 < (x0.length : Int) then (valiseref04_New.j1 k x0 x3 x4 x5 x6 (x3 == 12)) else (valiseref04_New.j1 k x0 x3 x4 x5 x6 false)
def valiseref04_New.j1 : Nat → List Int → Int → Int → Int → Int → Bool → Option (Int)
  | 0, _, _, _, _, _, _ => none
  | k + 1, x0, x3, x4, x5, x6, x16 => if x16 = true then (if 0 ≤ x6 then (if x6 < (x0.length : Int) then (if (rd x0 x6) > 0 then (valiseref04_New.l0 k x0 x3 (wrap64 (x4 + 1)) (rd x0 x6) (wrap64 (x6 + 1))) else (valiseref04_New.l0 k x0 x3 x4 x5 (wrap64 (x6 + 1)))) else (none)) else (none)) else (if x3 = 12 then (if x4 = 1 then (if x5 = 1 then (some 0) else (some x3)) else (some x3)) else (some x3))
end
def valiseref04_New.f (k : Nat) (l0 : List Int) : Option (Int) := (valiseref04_Check.f k l0).bind fun t137 => (valiseref04_New.l0 k l0 t137 0 0 0)
theorem valiseref04_New.calls (k : Nat) (A0 : Option Addr) (c0 : Nat) (l0 : List Int) (r : Int) (w : World) (hr0 : Kd.C (Kd.int .i64) w A0 l0.length l0) (hc0 : l0.length ≤ c0) (h : valiseref04_New.f k l0 = some r) :
    Calls Tryz.prog 40 #[.slice A0 l0.length c0] w fun e w' => e = .returned (.int .i64 r) ∧ Drawn0 w w' := by
  have HR0 := Ak hr0; have HC0 := Ak hc0; clear hr0 hc0; have H : ((valiseref04_Check.f k l0).bind fun t137 => (valiseref04_New.l0 k l0 t137 0 0 0)) = some r := h; clear h; replace H := Option.bind_eq_some_iff.mp H; obtain ⟨t137, A20, H⟩ := H; replace H : (valiseref04_New.l0 k l0 t137 0 0 0) = some r := H; have A2 := Ak A20; clear A20; have H' := Ak H; clear H; go_enter Tryz.func40, Tryz.ntmps40
  go_wp2_with (((with_reducible refine gate_callee (f := 62) rfl ?_); refine gl (some 8) Tryz.func62 #[.slice A0 l0.length c0] ?_; (with_reducible refine (valiseref04_Check.calls k _ _ l0 t137 _ ?side1 ?side2 A2.out).mono ?_); (case side1 => repeat (exact HR0.out)); (case side2 => exact HC0.out); rintro e w' ⟨rfl, ⟨nd, rfl⟩⟩; refine ⟨_, rfl, ?_⟩))
  go_loopg [4, 5, 6] k (fun kq v4 v5 v6 w' => ∃ (x4_1 : Int) (x5_1 : Int) (x6_1 : Int), v4 = .int .i64 x4_1 ∧ v5 = .int .i64 x5_1 ∧ v6 = .int .i64 x6_1 ∧ Aside0 (valiseref04_New.l0 kq l0 t137 x4_1 x5_1 x6_1 = some r) ∧ Aside0 (kq ≤ k) ∧ Drawn0 w w')
  case atStart => exact ⟨(0), (0), (0), (by rfl), (by rfl), (by rfl), H', ⟨Nat.le_refl _⟩, by repeat (first | exact Drawn0.refl _ | apply Drawn0.step)⟩
  case round =>
    clear H'
    try clear p2
    obtain ⟨x4_1, x5_1, x6_1, rfl, rfl, rfl, HA, HK1, ⟨m1, rfl⟩⟩ := hrel
    cases gk with
    | zero => exact absurd HA.out (by simp [valiseref04_New.l0])
    | succ k1 => ?_
    have H := HA.out; clear HA; simp only [valiseref04_New.l0] at H; have HC3 := Ak H; clear H
    go_upto_region 4 with (fail)
    go_cut [16] (fun v16 wc => ∃ (kq : Nat) (x16_2 : Bool), v16 = .bool x16_2 ∧ Aside0 (valiseref04_New.j1 kq l0 t137 x4_1 x5_1 x6_1 x16_2 = some r) ∧ Aside0 (kq ≤ k1) ∧ Drawn0 w wc)
    case first =>
      have H := HC3.out; clear HC3
      by_cases c4 : x6_1 < (l0.length : Int)
      · rw [if_pos c4] at H; have c4b0 : decide (x6_1 < (l0.length : Int)) = true := decide_eq_true c4; clear c4
        have H' := Ak H; clear H; go_wp2
        go_meet
        case rel => exact ⟨_, ((t137 == 12)), (by rfl), H', ⟨by have := HK1.out; omega⟩, by repeat (first | exact Drawn0.refl _ | apply Drawn0.step)⟩
      rw [if_neg c4] at H; have c4b0 : decide (x6_1 < (l0.length : Int)) = false := decide_eq_false c4; clear c4
      have H' := Ak H; clear H; go_wp2
      go_meet
      case rel => exact ⟨_, (false), (by rfl), H', ⟨by have := HK1.out; omega⟩, by repeat (first | exact Drawn0.refl _ | apply Drawn0.step)⟩
    case rest =>
      clear HC3
      obtain ⟨kq, x16_2, rfl, HA, HJ2, ⟨mc2, rfl⟩⟩ := hcut
      cases kq with
      | zero => exact absurd HA.out (by simp [valiseref04_New.j1])
      | succ kj2 => ?_
      have H := HA.out; clear HA; simp only [valiseref04_New.j1] at H
      by_cases c5 : x16_2 = true
      · subst c5
        have H1 : (if 0 ≤ x6_1 then (if x6_1 < (l0.length : Int) then (if (rd l0 x6_1) > 0 then (valiseref04_New.l0 kj2 l0 t137 (wrap64 (x4_1 + 1)) (rd l0 x6_1) (wrap64 (x6_1 + 1))) else (valiseref04_New.l0 kj2 l0 t137 x4_1 x5_1 (wrap64 (x6_1 + 1)))) else (none)) else (none)) = some r := by rw [if_pos rfl] at H; exact H
        clear H; have H := H1; clear H1
        by_cases c6 : 0 ≤ x6_1
        rotate_left
        · rw [if_neg c6] at H; exact absurd H (by simp)
        rw [if_pos c6] at H; have c6b0 : decide (0 ≤ x6_1) = true := decide_eq_true c6; clear c6
        by_cases c7 : x6_1 < (l0.length : Int)
        rotate_left
        · rw [if_neg c7] at H; exact absurd H (by simp)
        rw [if_pos c7] at H; have c7b0 : decide (x6_1 < (l0.length : Int)) = true := decide_eq_true c7; clear c7
        by_cases c8 : (rd l0 x6_1) > 0
        · rw [if_pos c8] at H; have c8b0 : decide (0 < (rd l0 x6_1)) = true := decide_eq_true c8; clear c8; have H' := Ak H; clear H; have p138 : 0 ≤ (x6_1 : Int) := of_decide_eq_true (by (with_reducible assumption)); have q138 : x6_1 < (l0.length : Int) := of_decide_eq_true (by (with_reducible assumption)); obtain ⟨ad138, e138, hx138_0⟩ := Kd.at_int HR0.out x6_1 p138 q138; cases e138; replace p138 := eq_true p138; replace q138 := eq_true q138; have p139 : 0 ≤ (x6_1 : Int) := of_decide_eq_true (by (with_reducible assumption)); have q139 : x6_1 < (l0.length : Int) := of_decide_eq_true (by (with_reducible assumption)); obtain ⟨ad139, e139, hx139_0⟩ := Kd.at_int HR0.out x6_1 p139 q139; obtain rfl : ad138 = ad139 := (by injection e139); replace p139 := eq_true p139; replace q139 := eq_true q139; go_wp2
          go_roundg kj2
          case measure => have := HK1.out; have := HJ2.out; omega
          case rel => exact ⟨(wrap64 (x4_1 + 1)), (rd l0 x6_1), (wrap64 (x6_1 + 1)), (by rfl), (by rfl), (by rfl), H', ⟨by have := HK1.out; have := HJ2.out; omega⟩, by repeat (first | exact Drawn0.refl _ | apply Drawn0.step)⟩
        rw [if_neg c8] at H; have c8b0 : decide (0 < (rd l0 x6_1)) = false := decide_eq_false c8; clear c8; have H' := Ak H; clear H; have p138 : 0 ≤ (x6_1 : Int) := of_decide_eq_true (by (with_reducible assumption)); have q138 : x6_1 < (l0.length : Int) := of_decide_eq_true (by (with_reducible assumption)); obtain ⟨ad138, e138, hx138_0⟩ := Kd.at_int HR0.out x6_1 p138 q138; cases e138; replace p138 := eq_true p138; replace q138 := eq_true q138; go_wp2
        go_roundg kj2
        case measure => have := HK1.out; have := HJ2.out; omega
        case rel => exact ⟨(x4_1), (x5_1), (wrap64 (x6_1 + 1)), (by rfl), (by rfl), (by rfl), H', ⟨by have := HK1.out; have := HJ2.out; omega⟩, by repeat (first | exact Drawn0.refl _ | apply Drawn0.step)⟩
      replace c5 := Bool.eq_false_iff.mpr c5; subst c5
      have H1 : (if t137 = 12 then (if x4_1 = 1 then (if x5_1 = 1 then (some 0) else (some t137)) else (some t137)) else (some t137)) = some r := by rw [if_neg (show ¬ (false = true) by decide)] at H; exact H
      clear H; have H := H1; clear H1
      by_cases c9 : t137 = 12
      rotate_left
      · rw [if_neg c9] at H; have c9b0 : (t137 == 12) = false := beq_eq_false_iff_ne.mpr c9; have c9b1 : (t137 != 12) = true := bne_iff_ne.mpr c9; obtain rfl := Option.some.inj H; go_wp2; go_ret; exact ⟨by rfl, by repeat (first | exact Drawn0.refl _ | apply Drawn0.step)⟩
      rw [if_pos c9] at H; have c9b0 : (t137 == 12) = true := beq_iff_eq.mpr c9; have c9b1 : (t137 != 12) = false := bne_eq_false_iff_eq.mpr c9; clear c9
      by_cases c10 : x4_1 = 1
      · rw [if_pos c10] at H; have c10b0 : (x4_1 == 1) = true := beq_iff_eq.mpr c10; have c10b1 : (x4_1 != 1) = false := bne_eq_false_iff_eq.mpr c10; clear c10
        by_cases c11 : x5_1 = 1
        · rw [if_pos c11] at H; have c11b0 : (x5_1 == 1) = true := beq_iff_eq.mpr c11; have c11b1 : (x5_1 != 1) = false := bne_eq_false_iff_eq.mpr c11; clear c11; obtain rfl := Option.some.inj H; go_wp2; go_ret; exact ⟨by rfl, by repeat (first | exact Drawn0.refl _ | apply Drawn0.step)⟩
        rw [if_neg c11] at H; have c11b0 : (x5_1 == 1) = false := beq_eq_false_iff_ne.mpr c11; have c11b1 : (x5_1 != 1) = true := bne_iff_ne.mpr c11; obtain rfl := Option.some.inj H; go_wp2; go_ret; exact ⟨by rfl, by repeat (first | exact Drawn0.refl _ | apply Drawn0.step)⟩
      rw [if_neg c10] at H; have c10b0 : (x4_1 == 1) = false := beq_eq_false_iff_ne.mpr c10; have c10b1 : (x4_1 != 1) = true := bne_iff_ne.mpr c10; obtain rfl := Option.some.inj H; go_wp2; go_ret; exact ⟨by rfl, by repeat (first | exact Drawn0.refl _ | apply Drawn0.step)⟩

end Go.Proofs.YtgflkkjhckcipaaGreatDoor.Pv

