-- Texts by hand and by programs of this session, joined (wip/tool/merge.py).
import Derived.Test.YtgflkkjhckcipaaGreatDoorMID3
import Derived.Shelf.Abstract
import Derived.Shelf.RegionOpen
import Derived.OwnWalkIn
import Derived.TacticsInMore
import Derived.LoopNIn
import Derived.LoopIn
import Derived.WalkSmall
import Derived.Recover
import Derived.Defers
import Derived.Stop.Asserts
import Derived.RangeFuncNested
import Derived.RangeFuncBound
import Derived.RangeFuncCalls
import Derived.RangeFuncLeaves
import Derived.RangeFuncBox
-- YtgflkkjhckcipaaGreatDoorPs3
set_option maxHeartbeats 16000000
set_option maxRecDepth 1000000
namespace Go.Proofs.YtgflkkjhckcipaaGreatDoor.Pr
open Go.RowKit Go.Proofs.YtgflkkjhckcipaaGreatDoorW.PrintWords Go.Proofs.YtgflkkjhckcipaaGreatDoorW.PrintLast Go.Proofs.YtgflkkjhckcipaaGreatDoorW.PrintMore
attribute [local go_sem] max2_int min2_int max_two min_two max_three min_three max_four min_four   -- for this text's walks alone
set_option linter.unusedVariables false
set_option linter.unusedSimpArgs false

def symbol_LenOf.f (k : Nat) (a0 : Int) (a1 : Int) : Option (Int × Int) := (symbol_lens.f).bind fun bt126 => ((symbol_kind_of.f k bt126.1 bt126.2.1 bt126.2.2.1 bt126.2.2.2.1 bt126.2.2.2.2 a0 a1).bind fun bt131 => (some (bt131.1, bt131.2)))
theorem symbol_LenOf.calls (k : Nat) (a0 : Int) (a1 : Int) (r1 : Int) (r2 : Int) (w : World) (h : symbol_LenOf.f k a0 a1 = some (r1, r2)) :
    Calls Tryz.prog 65 #[.int .i64 a0, .int .i64 a1] w fun e w' => e = .returned (.tuple #[.int .i64 r1, .int .i64 r2]) ∧ Below w.heap.size w w' := by
  have HB := Ak (Below.refl w.heap.size w); have H : ((symbol_lens.f).bind fun bt126 => ((symbol_kind_of.f k bt126.1 bt126.2.1 bt126.2.2.1 bt126.2.2.2.1 bt126.2.2.2.2 a0 a1).bind fun bt131 => (some (bt131.1, bt131.2)))) = some (r1, r2) := h; clear h; replace H := Option.bind_eq_some_iff.mp H; obtain ⟨⟨t126, t127, t128, t129, t130⟩, A30, H⟩ := H; replace H : ((symbol_kind_of.f k t126 t127 t128 t129 t130 a0 a1).bind fun bt131 => (some (bt131.1, bt131.2))) = some (r1, r2) := H; have A3 := Ak A30; clear A30; replace H := Option.bind_eq_some_iff.mp H; obtain ⟨⟨t131, t132⟩, A40, H⟩ := H; replace H : (some (t131, t132)) = some (r1, r2) := H; have A4 := Ak A40; clear A40; simp only [Option.some.injEq, Prod.mk.injEq] at H; obtain ⟨rfl, rfl⟩ := H; go_enter Tryz.func65, Tryz.ntmps65
  go_wp2_with (first | ((with_reducible refine gate_callee (f := 83) rfl ?_); refine gl (some 6) Tryz.func83 #[] ?_; (with_reducible refine (symbol_lens.calls  t126 t127 t128 t129 t130 _ A3.out).mono ?_); rintro e w5 ⟨rfl, hb⟩; refine ⟨_, rfl, ?_⟩; replace HB := Ak (below_step bl_ hb); (try clear hb)) | ((with_reducible refine gate_callee (f := 85) rfl ?_); refine gl (some 9) Tryz.func85 #[.agg #[.int .i64 t126, .int .i64 t127, .int .i64 t128, .int .i64 t129, .int .i64 t130], .int .i64 a0, .int .i64 a1] ?_; (with_reducible refine (symbol_kind_of.calls k t126 t127 t128 t129 t130 a0 a1 t131 t132 _ A4.out).mono ?_); rintro e w6 ⟨rfl, hb⟩; refine ⟨_, rfl, ?_⟩; replace HB := Ak (below_step bl_ hb); (try clear hb)))
  go_ret2; exact ⟨by rfl, by repeat ((with_reducible exact HB.out))⟩

def symbol_dists.f  : Option (Int × Int × Int × Int × Int) := some (0, 4, 2, 13, 1)
theorem symbol_dists.calls  (r1 : Int) (r2 : Int) (r3 : Int) (r4 : Int) (r5 : Int) (w : World) (h : symbol_dists.f  = some (r1, r2, r3, r4, r5)) :
    Calls Tryz.prog 86 #[] w fun e w' => e = .returned (.agg #[.int .i64 r1, .int .i64 r2, .int .i64 r3, .int .i64 r4, .int .i64 r5]) ∧ Below w.heap.size w w' := by
  have hu148 := Tryz.underlying148; have HB := Ak (Below.refl w.heap.size w); have H : (some (0, 4, 2, 13, 1)) = some (r1, r2, r3, r4, r5) := h; clear h; simp only [Option.some.injEq, Prod.mk.injEq] at H; obtain ⟨rfl, rfl, rfl, rfl, rfl⟩ := H; go_enter Tryz.func86, Tryz.ntmps86
  go_wp2_with (((with_reducible refine gate_dst (N := 0) rfl ?_); refine box_event ?hg (N := 0) ?hd (cs := #[.int .i64 0, .int .i64 0, .int .i64 0, .int .i64 0, .int .i64 0]) (t := 148) ?hr ?_; (case hd => rfl); (case hg => rfl); (case hr => (go_simp; done)); intro gb133 hg w1 hbox hb; replace BK133 := Ak (hbox); replace GW133 := Ak ((by rw [hg]; exact (below_size bl_) : w.heap.size ≤ gb133)); replace GE133 := Ak ((by rw [hg]; exact (below_size bl_) : w.heap.size ≤ gb133)); replace HB := Ak (below_step bl_ hb); clear hb hbox hg; have hcz2_0 : w1.cell? ⟨gb133, 0, none⟩ = some (.int .i64 0) := (blk_cell BK133.out 0).trans rfl; have hcz2_1 : w1.cell? ⟨gb133, 1, none⟩ = some (.int .i64 0) := (blk_cell BK133.out 1).trans rfl; have hcz2_2 : w1.cell? ⟨gb133, 2, none⟩ = some (.int .i64 0) := (blk_cell BK133.out 2).trans rfl; have hcz2_3 : w1.cell? ⟨gb133, 3, none⟩ = some (.int .i64 0) := (blk_cell BK133.out 3).trans rfl; have hcz2_4 : w1.cell? ⟨gb133, 4, none⟩ = some (.int .i64 0) := (blk_cell BK133.out 4).trans rfl; have hfz2_0 := blk_frozen BK133.out 0; have hfz2_1 := blk_frozen BK133.out 1; have hfz2_2 := blk_frozen BK133.out 2; have hfz2_3 := blk_frozen BK133.out 3; have hfz2_4 := blk_frozen BK133.out 4))
  refine bodyPost_ret (results_cell_row rfl _ _ gb133 148 #[.int .i64 0, .int .i64 4, .int .i64 2, .int .i64 13, .int .i64 1] (0, 0) _ rfl (by (with_reducible repeat (fail)); refine blk_put (cs := #[.int .i64 0, .int .i64 4, .int .i64 2, .int .i64 13, .int .i64 0]) ?_ 4 _ rfl; (with_reducible repeat (fail)); refine blk_put (cs := #[.int .i64 0, .int .i64 4, .int .i64 2, .int .i64 0, .int .i64 0]) ?_ 3 _ rfl; (with_reducible repeat (fail)); refine blk_put (cs := #[.int .i64 0, .int .i64 4, .int .i64 0, .int .i64 0, .int .i64 0]) ?_ 2 _ rfl; (with_reducible repeat (fail)); refine blk_put (cs := #[.int .i64 0, .int .i64 0, .int .i64 0, .int .i64 0, .int .i64 0]) ?_ 1 _ rfl; (with_reducible repeat (fail)); refine blk_put (cs := #[.int .i64 0, .int .i64 0, .int .i64 0, .int .i64 0, .int .i64 0]) ?_ 0 _ rfl; (with_reducible repeat (fail)); exact BK133.out) Tryz.underlying148 rfl (by kernel_rfl)) rfl ?_; exact ⟨by rfl, by repeat ((with_reducible first | exact HB.out | refine below_set ?_ GE133.out))⟩

def symbol_DistBits.f (k : Nat) (a0 : Int) : Option (Int × Int) := (symbol_dists.f).bind fun bt134 => ((symbol_kind_bits.f k bt134.1 bt134.2.1 bt134.2.2.1 bt134.2.2.2.1 bt134.2.2.2.2 a0).bind fun bt139 => (some (bt139.1, bt139.2)))
theorem symbol_DistBits.calls (k : Nat) (a0 : Int) (r1 : Int) (r2 : Int) (w : World) (h : symbol_DistBits.f k a0 = some (r1, r2)) :
    Calls Tryz.prog 66 #[.int .i64 a0] w fun e w' => e = .returned (.tuple #[.int .i64 r1, .int .i64 r2]) ∧ Below w.heap.size w w' := by
  have HB := Ak (Below.refl w.heap.size w); have H : ((symbol_dists.f).bind fun bt134 => ((symbol_kind_bits.f k bt134.1 bt134.2.1 bt134.2.2.1 bt134.2.2.2.1 bt134.2.2.2.2 a0).bind fun bt139 => (some (bt139.1, bt139.2)))) = some (r1, r2) := h; clear h; replace H := Option.bind_eq_some_iff.mp H; obtain ⟨⟨t134, t135, t136, t137, t138⟩, A20, H⟩ := H; replace H : ((symbol_kind_bits.f k t134 t135 t136 t137 t138 a0).bind fun bt139 => (some (bt139.1, bt139.2))) = some (r1, r2) := H; have A2 := Ak A20; clear A20; replace H := Option.bind_eq_some_iff.mp H; obtain ⟨⟨t139, t140⟩, A30, H⟩ := H; replace H : (some (t139, t140)) = some (r1, r2) := H; have A3 := Ak A30; clear A30; simp only [Option.some.injEq, Prod.mk.injEq] at H; obtain ⟨rfl, rfl⟩ := H; go_enter Tryz.func66, Tryz.ntmps66
  go_wp2_with (first | ((with_reducible refine gate_callee (f := 86) rfl ?_); refine gl (some 4) Tryz.func86 #[] ?_; (with_reducible refine (symbol_dists.calls  t134 t135 t136 t137 t138 _ A2.out).mono ?_); rintro e w4 ⟨rfl, hb⟩; refine ⟨_, rfl, ?_⟩; replace HB := Ak (below_step bl_ hb); (try clear hb)) | ((with_reducible refine gate_callee (f := 84) rfl ?_); refine gl (some 6) Tryz.func84 #[.agg #[.int .i64 t134, .int .i64 t135, .int .i64 t136, .int .i64 t137, .int .i64 t138], .int .i64 a0] ?_; (with_reducible refine (symbol_kind_bits.calls k t134 t135 t136 t137 t138 a0 t139 t140 _ A3.out).mono ?_); rintro e w5 ⟨rfl, hb⟩; refine ⟨_, rfl, ?_⟩; replace HB := Ak (below_step bl_ hb); (try clear hb)))
  go_ret2; exact ⟨by rfl, by repeat ((with_reducible exact HB.out))⟩

def symbol_DistOf.f (k : Nat) (a0 : Int) (a1 : Int) : Option (Int × Int) := (symbol_dists.f).bind fun bt141 => ((symbol_kind_of.f k bt141.1 bt141.2.1 bt141.2.2.1 bt141.2.2.2.1 bt141.2.2.2.2 a0 a1).bind fun bt146 => (some (bt146.1, bt146.2)))
theorem symbol_DistOf.calls (k : Nat) (a0 : Int) (a1 : Int) (r1 : Int) (r2 : Int) (w : World) (h : symbol_DistOf.f k a0 a1 = some (r1, r2)) :
    Calls Tryz.prog 67 #[.int .i64 a0, .int .i64 a1] w fun e w' => e = .returned (.tuple #[.int .i64 r1, .int .i64 r2]) ∧ Below w.heap.size w w' := by
  have HB := Ak (Below.refl w.heap.size w); have H : ((symbol_dists.f).bind fun bt141 => ((symbol_kind_of.f k bt141.1 bt141.2.1 bt141.2.2.1 bt141.2.2.2.1 bt141.2.2.2.2 a0 a1).bind fun bt146 => (some (bt146.1, bt146.2)))) = some (r1, r2) := h; clear h; replace H := Option.bind_eq_some_iff.mp H; obtain ⟨⟨t141, t142, t143, t144, t145⟩, A30, H⟩ := H; replace H : ((symbol_kind_of.f k t141 t142 t143 t144 t145 a0 a1).bind fun bt146 => (some (bt146.1, bt146.2))) = some (r1, r2) := H; have A3 := Ak A30; clear A30; replace H := Option.bind_eq_some_iff.mp H; obtain ⟨⟨t146, t147⟩, A40, H⟩ := H; replace H : (some (t146, t147)) = some (r1, r2) := H; have A4 := Ak A40; clear A40; simp only [Option.some.injEq, Prod.mk.injEq] at H; obtain ⟨rfl, rfl⟩ := H; go_enter Tryz.func67, Tryz.ntmps67
  go_wp2_with (first | ((with_reducible refine gate_callee (f := 86) rfl ?_); refine gl (some 6) Tryz.func86 #[] ?_; (with_reducible refine (symbol_dists.calls  t141 t142 t143 t144 t145 _ A3.out).mono ?_); rintro e w5 ⟨rfl, hb⟩; refine ⟨_, rfl, ?_⟩; replace HB := Ak (below_step bl_ hb); (try clear hb)) | ((with_reducible refine gate_callee (f := 85) rfl ?_); refine gl (some 9) Tryz.func85 #[.agg #[.int .i64 t141, .int .i64 t142, .int .i64 t143, .int .i64 t144, .int .i64 t145], .int .i64 a0, .int .i64 a1] ?_; (with_reducible refine (symbol_kind_of.calls k t141 t142 t143 t144 t145 a0 a1 t146 t147 _ A4.out).mono ?_); rintro e w6 ⟨rfl, hb⟩; refine ⟨_, rfl, ?_⟩; replace HB := Ak (below_step bl_ hb); (try clear hb)))
  go_ret2; exact ⟨by rfl, by repeat ((with_reducible exact HB.out))⟩

def header_extra.f (a0 : Int) : Option (Int) := if a0 = 16 then (some 2) else (if a0 = 17 then (some 3) else (if a0 = 18 then (some 7) else (some 0)))
theorem header_extra.calls (a0 : Int) (r : Int) (w : World) (h : header_extra.f a0 = some r) :
    Calls Tryz.prog 75 #[.int .i64 a0] w fun e w' => e = .returned (.int .i64 r) ∧ Drawn0 w w' := by
  have H : (if a0 = 16 then (some 2) else (if a0 = 17 then (some 3) else (if a0 = 18 then (some 7) else (some 0)))) = some r := h; clear h
  by_cases c2 : a0 = 16
  · rw [if_pos c2] at H; have c2b0 : (a0 == 16) = true := beq_iff_eq.mpr c2; have c2b1 : (a0 != 16) = false := bne_eq_false_iff_eq.mpr c2; clear c2; obtain rfl := Option.some.inj H; go_enter Tryz.func75, Tryz.ntmps75; go_wp2; go_ret; exact ⟨by rfl, by repeat (exact Drawn0.refl _)⟩
  rw [if_neg c2] at H; have c2b0 : (a0 == 16) = false := beq_eq_false_iff_ne.mpr c2; have c2b1 : (a0 != 16) = true := bne_iff_ne.mpr c2
  by_cases c3 : a0 = 17
  · rw [if_pos c3] at H; have c3b0 : (a0 == 17) = true := beq_iff_eq.mpr c3; have c3b1 : (a0 != 17) = false := bne_eq_false_iff_eq.mpr c3; clear c3; obtain rfl := Option.some.inj H; go_enter Tryz.func75, Tryz.ntmps75; go_wp2; go_ret; exact ⟨by rfl, by repeat (exact Drawn0.refl _)⟩
  rw [if_neg c3] at H; have c3b0 : (a0 == 17) = false := beq_eq_false_iff_ne.mpr c3; have c3b1 : (a0 != 17) = true := bne_iff_ne.mpr c3
  by_cases c4 : a0 = 18
  · rw [if_pos c4] at H; have c4b0 : (a0 == 18) = true := beq_iff_eq.mpr c4; have c4b1 : (a0 != 18) = false := bne_eq_false_iff_eq.mpr c4; clear c4; obtain rfl := Option.some.inj H; go_enter Tryz.func75, Tryz.ntmps75; go_wp2; go_ret; exact ⟨by rfl, by repeat (exact Drawn0.refl _)⟩
  rw [if_neg c4] at H; have c4b0 : (a0 == 18) = false := beq_eq_false_iff_ne.mpr c4; have c4b1 : (a0 != 18) = true := bne_iff_ne.mpr c4; obtain rfl := Option.some.inj H; go_enter Tryz.func75, Tryz.ntmps75; go_wp2; go_ret; exact ⟨by rfl, by repeat (exact Drawn0.refl _)⟩

def header_order.f  : Option (List Int) := some (([16, 17, 18, 0, 8, 7, 9, 6, 10, 5, 11, 4, 12, 3, 13, 2, 14, 1, 15] : List Int))
theorem header_order.calls  (r : List Int) (w : World) (h : header_order.f  = some r) :
    Calls Tryz.prog 73 #[] w fun e w' => ∃ v0_ : Value, e = .returned (v0_) ∧ Kd.R (Kd.int .i64) 3 w' w.heap.size (fun _ => True) v0_ r ∧ Below w.heap.size w w' := by
  have HB := Ak (Below.refl w.heap.size w); have H : (some (([16, 17, 18, 0, 8, 7, 9, 6, 10, 5, 11, 4, 12, 3, 13, 2, 14, 1, 15] : List Int))) = some r := h; clear h; obtain ⟨y148, hy148⟩ : ∃ y_ : List Int, y_ = (([16, 17, 18, 0, 8, 7, 9, 6, 10, 5, 11, 4, 12, 3, 13, 2, 14, 1, 15] : List Int)) := ⟨_, rfl⟩
  replace H : (some y148) = some r := by (rw [hy148]; with_reducible exact H)
  have Ny148 := Ak hy148; clear hy148; obtain rfl := Option.some.inj H; go_enter Tryz.func73, Tryz.ntmps73
  go_wp2_with (((with_reducible refine gate_dst (N := 1) rfl ?_); refine Kd.R_lit (Kd.int .i64) _ 3 ?hg (N := 1) ?hd (xs := ([16, 17, 18, 0, 8, 7, 9, 6, 10, 5, 11, 4, 12, 3, 13, 2, 14, 1, 15] : List Int)) (inner := [.int .i64 16, .int .i64 17, .int .i64 18, .int .i64 0, .int .i64 8, .int .i64 7, .int .i64 9, .int .i64 6, .int .i64 10, .int .i64 5, .int .i64 11, .int .i64 4, .int .i64 12, .int .i64 3, .int .i64 13, .int .i64 2, .int .i64 14, .int .i64 1, .int .i64 15]) (ok := fun _ => True) (okp := fun _ => True) ?hr ?hp (fun _ hk => hk) trivial (Below.refl _ _) (Nat.le_refl _) (by simp) ?_; (case hd => rfl); (case hg => rfl); (case hr => (go_simp; done)); (case hp => exact (Reps.one (show Kd.M (Kd.int .i64) _ _ _ 16 [.int .i64 16] from rfl) (Reps.one (show Kd.M (Kd.int .i64) _ _ _ 17 [.int .i64 17] from rfl) (Reps.one (show Kd.M (Kd.int .i64) _ _ _ 18 [.int .i64 18] from rfl) (Reps.one (show Kd.M (Kd.int .i64) _ _ _ 0 [.int .i64 0] from rfl) (Reps.one (show Kd.M (Kd.int .i64) _ _ _ 8 [.int .i64 8] from rfl) (Reps.one (show Kd.M (Kd.int .i64) _ _ _ 7 [.int .i64 7] from rfl) (Reps.one (show Kd.M (Kd.int .i64) _ _ _ 9 [.int .i64 9] from rfl) (Reps.one (show Kd.M (Kd.int .i64) _ _ _ 6 [.int .i64 6] from rfl) (Reps.one (show Kd.M (Kd.int .i64) _ _ _ 10 [.int .i64 10] from rfl) (Reps.one (show Kd.M (Kd.int .i64) _ _ _ 5 [.int .i64 5] from rfl) (Reps.one (show Kd.M (Kd.int .i64) _ _ _ 11 [.int .i64 11] from rfl) (Reps.one (show Kd.M (Kd.int .i64) _ _ _ 4 [.int .i64 4] from rfl) (Reps.one (show Kd.M (Kd.int .i64) _ _ _ 12 [.int .i64 12] from rfl) (Reps.one (show Kd.M (Kd.int .i64) _ _ _ 3 [.int .i64 3] from rfl) (Reps.one (show Kd.M (Kd.int .i64) _ _ _ 13 [.int .i64 13] from rfl) (Reps.one (show Kd.M (Kd.int .i64) _ _ _ 2 [.int .i64 2] from rfl) (Reps.one (show Kd.M (Kd.int .i64) _ _ _ 14 [.int .i64 14] from rfl) (Reps.one (show Kd.M (Kd.int .i64) _ _ _ 1 [.int .i64 1] from rfl) (Reps.one (show Kd.M (Kd.int .i64) _ _ _ 15 [.int .i64 15] from rfl) (Reps.none _ _))))))))))))))))))))); intro v149 w1 ho2 hb hg_ hnew_; clear hg_ hnew_; (rw [← Ny148.out] at ho2); replace HO150 := Ak (Kd.R_lower ho2 (below_size bl_)); replace HB := Ak (below_step bl_ hb); clear hb ho2))
  go_ret; exact ⟨_, by rfl, by (with_reducible repeat (fail)); exact HO150.out, by repeat ((with_reducible exact HB.out))⟩

def bits_Check.j0 : Nat → Bool → List Int → Int → Option (Int)
  | 0, _, _, _ => none
  | k + 1, x20, x152000, x152001 => if x20 = true then (some 2) else (if (Go.bits .and .i64 x152001 7) = 0 then (some 0) else (if 0 ≤ (wrap64 ((x152000.length : Int) - 1)) then (if (wrap64 ((x152000.length : Int) - 1)) < (x152000.length : Int) then (if 0 ≤ (Go.bits .and .i64 x152001 7) then (if (shr .u8 (rd x152000 (wrap64 ((x152000.length : Int) - 1))) (Go.bits .and .i64 x152001 7)) = 0 then (some 0) else (some 2)) else (none)) else (none)) else (none)))
def bits_Check.f (k : Nat) (l0_0 : List Int) (a0_1 : Int) : Option (Int) := if a0_1 < 0 then (bits_Check.j0 k true l0_0 a0_1) else (bits_Check.j0 k ((l0_0.length : Int) != (wrap64 ((a0_1 / 8) + ((wrap64 ((Go.bits .and .i64 a0_1 7) + 7)) / 8)))) l0_0 a0_1)
theorem bits_Check.calls (k : Nat) (A0_0 : Option Addr) (c0_0 : Nat) (l0_0 : List Int) (a0_1 : Int) (r : Int) (w : World) (hr0_0 : Kd.C (Kd.int .u8) w A0_0 l0_0.length l0_0) (hc0_0 : l0_0.length ≤ c0_0) (h : bits_Check.f k l0_0 a0_1 = some r) :
    Calls Tryz.prog 42 #[.agg #[.slice A0_0 l0_0.length c0_0, .int .i64 a0_1]] w fun e w' => e = .returned (.int .i64 r) ∧ Below w.heap.size w w' := by
  have hu43 := Tryz.underlying43; have HR0_0 := Ak hr0_0; have HC0_0 := Ak hc0_0; clear hr0_0 hc0_0; have HB := Ak (Below.refl w.heap.size w); have H : (if a0_1 < 0 then (bits_Check.j0 k true l0_0 a0_1) else (bits_Check.j0 k ((l0_0.length : Int) != (wrap64 ((a0_1 / 8) + ((wrap64 ((Go.bits .and .i64 a0_1 7) + 7)) / 8)))) l0_0 a0_1)) = some r := h; clear h; have HC2 := Ak H; clear H; go_enter Tryz.func42, Tryz.ntmps42
  go_upto_region 1 with (((with_reducible refine gate_dst (N := 1) rfl ?_); (try (refine gate_guard (by rfl) ?_; dsimp only)); refine box_event ?hg (N := 1) ?hd (cs := #[.slice A0_0 l0_0.length c0_0, .int .i64 a0_1]) (t := 43) ?hr ?_; (case hd => rfl); (case hg => rfl); (case hr => (go_simp; done)); intro gb151 hg w3 hbox hb; replace BK151 := Ak (hbox); replace GW151 := Ak ((by rw [hg]; exact (below_size bl_) : w.heap.size ≤ gb151)); replace GE151 := Ak ((by rw [hg]; exact (below_size bl_) : w.heap.size ≤ gb151)); replace HB := Ak (below_step bl_ hb); clear hb hbox hg))
  repeat (go_quiet (fail); go_upto_region 1 with (fail))
  go_cut [20] (fun v20 wc => ∃ (kq : Nat) (x20_1 : Bool), v20 = .bool x20_1 ∧ Aside0 (bits_Check.j0 kq x20_1 l0_0 a0_1 = some r) ∧ Aside0 (kq ≤ k) ∧ Aside0 (wc.heap[gb151]? = some (.cells #[(.slice A0_0 l0_0.length c0_0), .int .i64 a0_1] 43 (0, 0))) ∧ Aside0 (Below w.heap.size w wc))
  case first =>
    have H := HC2.out; clear HC2
    by_cases c4 : a0_1 < 0
    · rw [if_pos c4] at H; have c4b0 : decide (a0_1 < 0) = true := decide_eq_true c4; clear c4
      have H' := Ak H; clear H; have hcz5_0 : w3.cell? ⟨gb151, 0, none⟩ = some (.slice A0_0 l0_0.length c0_0) := (blk_cell BK151.out 0).trans rfl; have hcz5_1 : w3.cell? ⟨gb151, 1, none⟩ = some (.int .i64 a0_1) := (blk_cell BK151.out 1).trans rfl; have hfz5_0 := blk_frozen BK151.out 0; have hfz5_1 := blk_frozen BK151.out 1; go_wp2
      repeat (go_quiet (fail); try go_wp2)
      go_meet
      case rel => exact ⟨_, (true), (by rfl), H', ⟨by omega⟩, ⟨by (with_reducible repeat (fail)); exact BK151.out⟩, ⟨by repeat ((with_reducible exact HB.out))⟩⟩
    rw [if_neg c4] at H; have c4b0 : decide (a0_1 < 0) = false := decide_eq_false c4; clear c4
    have H' := Ak H; clear H; have hcz6_0 : w3.cell? ⟨gb151, 0, none⟩ = some (.slice A0_0 l0_0.length c0_0) := (blk_cell BK151.out 0).trans rfl; have hcz6_1 : w3.cell? ⟨gb151, 1, none⟩ = some (.int .i64 a0_1) := (blk_cell BK151.out 1).trans rfl; have hfz6_0 := blk_frozen BK151.out 0; have hfz6_1 := blk_frozen BK151.out 1; go_wp2
    repeat (go_quiet (fail); try go_wp2)
    go_meet
    case rel => exact ⟨_, (((l0_0.length : Int) != (wrap64 ((a0_1 / 8) + ((wrap64 ((Go.bits .and .i64 a0_1 7) + 7)) / 8))))), (by rfl), H', ⟨by omega⟩, ⟨by (with_reducible repeat (fail)); exact BK151.out⟩, ⟨by repeat ((with_reducible exact HB.out))⟩⟩
  case rest =>
    clear HC2
    obtain ⟨kq, x20_1, rfl, HA, HJ1, BK151, HB⟩ := hcut
    cases kq with
    | zero => exact absurd HA.out (by simp [bits_Check.j0])
    | succ kj1 => ?_
    have H := HA.out; clear HA; simp only [bits_Check.j0] at H
    by_cases c7 : x20_1 = true
    · subst c7
      have H1 : (some 2) = some r := by rw [if_pos rfl] at H; exact H
      clear H; have H := H1; clear H1; obtain rfl := Option.some.inj H; go_wp2
      repeat (go_quiet (fail); try go_wp2)
      go_ret; exact ⟨by rfl, by repeat ((with_reducible exact HB.out))⟩
    replace c7 := Bool.eq_false_iff.mpr c7; subst c7
    have H1 : (if (Go.bits .and .i64 a0_1 7) = 0 then (some 0) else (if 0 ≤ (wrap64 ((l0_0.length : Int) - 1)) then (if (wrap64 ((l0_0.length : Int) - 1)) < (l0_0.length : Int) then (if 0 ≤ (Go.bits .and .i64 a0_1 7) then (if (shr .u8 (rd l0_0 (wrap64 ((l0_0.length : Int) - 1))) (Go.bits .and .i64 a0_1 7)) = 0 then (some 0) else (some 2)) else (none)) else (none)) else (none))) = some r := by rw [if_neg (show ¬ (false = true) by decide)] at H; exact H
    clear H; have H := H1; clear H1
    by_cases c8 : (Go.bits .and .i64 a0_1 7) = 0
    · rw [if_pos c8] at H; have c8b0 : ((Go.bits .and .i64 a0_1 7) == 0) = true := beq_iff_eq.mpr c8; have c8b1 : ((Go.bits .and .i64 a0_1 7) != 0) = false := bne_eq_false_iff_eq.mpr c8; clear c8; obtain rfl := Option.some.inj H; have hcz9_0 : wc.cell? ⟨gb151, 0, none⟩ = some (.slice A0_0 l0_0.length c0_0) := (blk_cell BK151.out 0).trans rfl; have hcz9_1 : wc.cell? ⟨gb151, 1, none⟩ = some (.int .i64 a0_1) := (blk_cell BK151.out 1).trans rfl; have hfz9_0 := blk_frozen BK151.out 0; have hfz9_1 := blk_frozen BK151.out 1; go_wp2
      repeat (go_quiet (fail); try go_wp2)
      go_ret; exact ⟨by rfl, by repeat ((with_reducible first | exact HB.out | apply pw_below_drewN))⟩
    rw [if_neg c8] at H; have c8b0 : ((Go.bits .and .i64 a0_1 7) == 0) = false := beq_eq_false_iff_ne.mpr c8; have c8b1 : ((Go.bits .and .i64 a0_1 7) != 0) = true := bne_iff_ne.mpr c8; obtain ⟨ji10, hji10⟩ : ∃ j_ : Int, (wrap64 ((l0_0.length : Int) - 1)) = j_ := ⟨_, rfl⟩
    replace H : (if 0 ≤ (ji10) then (if (ji10) < (l0_0.length : Int) then (if 0 ≤ (Go.bits .and .i64 a0_1 7) then (if (shr .u8 (rd l0_0 (ji10)) (Go.bits .and .i64 a0_1 7)) = 0 then (some 0) else (some 2)) else (none)) else (none)) else (none)) = some r := by (rw [hji10] at H; exact H)
    have hji10w : (IntKind.i64.wrap ((l0_0.length : Int) - 1)) = ji10 := (i64_w _).trans hji10
    by_cases c11 : 0 ≤ (ji10)
    rotate_left
    · rw [if_neg c11] at H; exact absurd H (by simp)
    rw [if_pos c11] at H; have c11b0 : decide (0 ≤ (ji10)) = true := decide_eq_true c11; clear c11
    by_cases c12 : (ji10) < (l0_0.length : Int)
    rotate_left
    · rw [if_neg c12] at H; exact absurd H (by simp)
    rw [if_pos c12] at H; have c12b0 : decide ((ji10) < (l0_0.length : Int)) = true := decide_eq_true c12; clear c12
    by_cases c13 : 0 ≤ (Go.bits .and .i64 a0_1 7)
    rotate_left
    · rw [if_neg c13] at H; exact absurd H (by simp)
    rw [if_pos c13] at H; have c13b0 := eq_true c13; have c13b1 : decide (0 ≤ (Go.bits .and .i64 a0_1 7)) = true := decide_eq_true c13; clear c13; obtain ⟨ji14, hji14⟩ : ∃ j_ : Int, (shr .u8 (rd l0_0 (ji10)) (Go.bits .and .i64 a0_1 7)) = j_ := ⟨_, rfl⟩
    replace H : (if (ji14) = 0 then (some 0) else (some 2)) = some r := by (rw [hji14] at H; exact H)
    have hji14_ : ((rd l0_0 (ji10)) / 2 ^ min (Go.bits .and .i64 a0_1 7).toNat 8) = ji14 := hji14; have hji14z : (Go.bits .and .i64 a0_1 7) ≤ 8 → ((rd l0_0 (ji10)) / 2 ^ (Go.bits .and .i64 a0_1 7).toNat) = ji14 := shr_small hji14
    by_cases c15 : (ji14) = 0
    · rw [if_pos c15] at H; have c15b0 : ((ji14) == 0) = true := beq_iff_eq.mpr c15; have c15b1 : ((ji14) != 0) = false := bne_eq_false_iff_eq.mpr c15; clear c15; obtain rfl := Option.some.inj H; have hcz16_0 : wc.cell? ⟨gb151, 0, none⟩ = some (.slice A0_0 l0_0.length c0_0) := (blk_cell BK151.out 0).trans rfl; have hcz16_1 : wc.cell? ⟨gb151, 1, none⟩ = some (.int .i64 a0_1) := (blk_cell BK151.out 1).trans rfl; have hfz16_0 := blk_frozen BK151.out 0; have hfz16_1 := blk_frozen BK151.out 1; have p152 : 0 ≤ ((ji10) : Int) := of_decide_eq_true (by (with_reducible assumption)); have q152 : (ji10) < (l0_0.length : Int) := of_decide_eq_true (by (with_reducible assumption)); obtain ⟨ad152, e152, hx152_0⟩ := Kd.at_int HR0_0.out (ji10) p152 q152; cases e152; replace hx152_0 := (HB.out.cell (World.block_lt_of_cell? w _ hx152_0)).trans hx152_0; replace p152 := eq_true p152; replace q152 := eq_true q152; go_wp2
      repeat (go_quiet (fail); try go_wp2)
      go_ret; exact ⟨by rfl, by repeat ((with_reducible first | exact HB.out | apply pw_below_drewN))⟩
    rw [if_neg c15] at H; have c15b0 : ((ji14) == 0) = false := beq_eq_false_iff_ne.mpr c15; have c15b1 : ((ji14) != 0) = true := bne_iff_ne.mpr c15; obtain rfl := Option.some.inj H; have hcz17_0 : wc.cell? ⟨gb151, 0, none⟩ = some (.slice A0_0 l0_0.length c0_0) := (blk_cell BK151.out 0).trans rfl; have hcz17_1 : wc.cell? ⟨gb151, 1, none⟩ = some (.int .i64 a0_1) := (blk_cell BK151.out 1).trans rfl; have hfz17_0 := blk_frozen BK151.out 0; have hfz17_1 := blk_frozen BK151.out 1; have p152 : 0 ≤ ((ji10) : Int) := of_decide_eq_true (by (with_reducible assumption)); have q152 : (ji10) < (l0_0.length : Int) := of_decide_eq_true (by (with_reducible assumption)); obtain ⟨ad152, e152, hx152_0⟩ := Kd.at_int HR0_0.out (ji10) p152 q152; cases e152; replace hx152_0 := (HB.out.cell (World.block_lt_of_cell? w _ hx152_0)).trans hx152_0; replace p152 := eq_true p152; replace q152 := eq_true q152; go_wp2
    repeat (go_quiet (fail); try go_wp2)
    go_ret; exact ⟨by rfl, by repeat ((with_reducible first | exact HB.out | apply pw_below_drewN))⟩

def bits_bit.f (l0_0 : List Int) (a0_1 : Int) (a1 : Int) : Option (Int) := if 0 ≤ (a1 / 8) then (if (a1 / 8) < (l0_0.length : Int) then (if 0 ≤ (Go.bits .and .i64 a1 7) then (some (Go.bits .and .i64 (shr .i64 (wrap64 (rd l0_0 (a1 / 8))) (Go.bits .and .i64 a1 7)) 1)) else (none)) else (none)) else (none)
theorem bits_bit.calls (A0_0 : Option Addr) (c0_0 : Nat) (l0_0 : List Int) (a0_1 : Int) (a1 : Int) (r : Int) (w : World) (hr0_0 : Kd.C (Kd.int .u8) w A0_0 l0_0.length l0_0) (hc0_0 : l0_0.length ≤ c0_0) (h : bits_bit.f l0_0 a0_1 a1 = some r) :
    Calls Tryz.prog 43 #[.agg #[.slice A0_0 l0_0.length c0_0, .int .i64 a0_1], .int .i64 a1] w fun e w' => e = .returned (.int .i64 r) ∧ Below w.heap.size w w' := by
  have hu43 := Tryz.underlying43; have HR0_0 := Ak hr0_0; have HC0_0 := Ak hc0_0; clear hr0_0 hc0_0; have HB := Ak (Below.refl w.heap.size w); have H : (if 0 ≤ (a1 / 8) then (if (a1 / 8) < (l0_0.length : Int) then (if 0 ≤ (Go.bits .and .i64 a1 7) then (some (Go.bits .and .i64 (shr .i64 (wrap64 (rd l0_0 (a1 / 8))) (Go.bits .and .i64 a1 7)) 1)) else (none)) else (none)) else (none)) = some r := h; clear h; obtain ⟨ji3, hji3⟩ : ∃ j_ : Int, (a1 / 8) = j_ := ⟨_, rfl⟩
  replace H : (if 0 ≤ (ji3) then (if (ji3) < (l0_0.length : Int) then (if 0 ≤ (Go.bits .and .i64 a1 7) then (some (Go.bits .and .i64 (shr .i64 (wrap64 (rd l0_0 (ji3))) (Go.bits .and .i64 a1 7)) 1)) else (none)) else (none)) else (none)) = some r := by (rw [hji3] at H; exact H)
  by_cases c4 : 0 ≤ (ji3)
  rotate_left
  · rw [if_neg c4] at H; exact absurd H (by simp)
  rw [if_pos c4] at H; have c4b0 : decide (0 ≤ (ji3)) = true := decide_eq_true c4; clear c4
  by_cases c5 : (ji3) < (l0_0.length : Int)
  rotate_left
  · rw [if_neg c5] at H; exact absurd H (by simp)
  rw [if_pos c5] at H; have c5b0 : decide ((ji3) < (l0_0.length : Int)) = true := decide_eq_true c5; clear c5
  by_cases c6 : 0 ≤ (Go.bits .and .i64 a1 7)
  rotate_left
  · rw [if_neg c6] at H; exact absurd H (by simp)
  rw [if_pos c6] at H; have c6b0 := eq_true c6; have c6b1 : decide (0 ≤ (Go.bits .and .i64 a1 7)) = true := decide_eq_true c6; clear c6; obtain ⟨ji7, hji7⟩ : ∃ j_ : Int, (shr .i64 (wrap64 (rd l0_0 (ji3))) (Go.bits .and .i64 a1 7)) = j_ := ⟨_, rfl⟩
  replace H : (some (Go.bits .and .i64 (ji7) 1)) = some r := by (rw [hji7] at H; exact H)
  have hji7_ : ((wrap64 (rd l0_0 (ji3))) / 2 ^ min (Go.bits .and .i64 a1 7).toNat 64) = ji7 := hji7; have hji7z : (Go.bits .and .i64 a1 7) ≤ 64 → ((wrap64 (rd l0_0 (ji3))) / 2 ^ (Go.bits .and .i64 a1 7).toNat) = ji7 := shr_small hji7; obtain rfl := Option.some.inj H; go_enter Tryz.func43, Tryz.ntmps43
  go_wp2_with (((with_reducible refine gate_dst (N := 2) rfl ?_); refine box_event ?hg (N := 2) ?hd (cs := #[.slice A0_0 l0_0.length c0_0, .int .i64 a0_1]) (t := 43) ?hr ?_; (case hd => rfl); (case hg => rfl); (case hr => (go_simp; done)); intro gb153 hg w8 hbox hb; replace BK153 := Ak (hbox); replace GW153 := Ak ((by rw [hg]; exact (below_size bl_) : w.heap.size ≤ gb153)); replace GE153 := Ak ((by rw [hg]; exact (below_size bl_) : w.heap.size ≤ gb153)); replace HB := Ak (below_step bl_ hb); clear hb hbox hg; have hcz9_0 : w8.cell? ⟨gb153, 0, none⟩ = some (.slice A0_0 l0_0.length c0_0) := (blk_cell BK153.out 0).trans rfl; have hcz9_1 : w8.cell? ⟨gb153, 1, none⟩ = some (.int .i64 a0_1) := (blk_cell BK153.out 1).trans rfl; have hfz9_0 := blk_frozen BK153.out 0; have hfz9_1 := blk_frozen BK153.out 1; have p154 : 0 ≤ ((ji3) : Int) := of_decide_eq_true (by (with_reducible assumption)); have q154 : (ji3) < (l0_0.length : Int) := of_decide_eq_true (by (with_reducible assumption)); obtain ⟨ad154, e154, hx154_0⟩ := Kd.at_int HR0_0.out (ji3) p154 q154; cases e154; replace hx154_0 := (HB.out.cell (World.block_lt_of_cell? w _ hx154_0)).trans hx154_0; replace p154 := eq_true p154; replace q154 := eq_true q154))
  go_ret; exact ⟨by rfl, by repeat ((with_reducible exact HB.out))⟩

mutual
def bits_Get.j0 : Nat → Int → Int → Bool → List Int → Int → Option (Int × Int)
  | 0, _, _, _, _, _ => none
  | k + 1, x1, x2, x30, x156000, x156001 => if x30 = true then (some (0, 2)) else (if (wrap64 (x156001 - x1)) < x2 then (some (0, 4)) else (bits_Get.l0 k x1 0 x2 0 x156000 x156001))
def bits_Get.l0 : Nat → Int → Int → Int → Int → List Int → Int → Option (Int × Int)
  | 0, _, _, _, _, _, _ => none
  | k + 1, x1, x8, x37, x38, x156000, x156001 => if x38 < x37 then ((bits_bit.f x156000 x156001 (wrap64 (x1 + x38))).bind fun t157 => (if 0 ≤ x38 then (bits_Get.l0 k x1 (Go.bits .or .i64 x8 (shl .i64 t157 x38)) x37 (wrap64 (x38 + 1)) x156000 x156001) else (none))) else (some (x8, 0))
end
def bits_Get.f (k : Nat) (l0_0 : List Int) (a0_1 : Int) (a1 : Int) (a2 : Int) : Option (Int × Int) := (bits_Check.f k l0_0 a0_1).bind fun t156 => (if t156 = 0 then (if a2 < 0 then (bits_Get.j0 k a1 a2 true l0_0 a0_1) else (if a2 > 32 then (bits_Get.j0 k a1 a2 true l0_0 a0_1) else (if a1 < 0 then (bits_Get.j0 k a1 a2 true l0_0 a0_1) else (bits_Get.j0 k a1 a2 (decide (a1 > a0_1)) l0_0 a0_1)))) else (bits_Get.j0 k a1 a2 true l0_0 a0_1))
theorem bits_Get.calls (k : Nat) (A0_0 : Option Addr) (c0_0 : Nat) (l0_0 : List Int) (a0_1 : Int) (a1 : Int) (a2 : Int) (r1 : Int) (r2 : Int) (w : World) (hr0_0 : Kd.C (Kd.int .u8) w A0_0 l0_0.length l0_0) (hc0_0 : l0_0.length ≤ c0_0) (h : bits_Get.f k l0_0 a0_1 a1 a2 = some (r1, r2)) :
    Calls Tryz.prog 30 #[.agg #[.slice A0_0 l0_0.length c0_0, .int .i64 a0_1], .int .i64 a1, .int .i64 a2] w fun e w' => e = .returned (.tuple #[.int .i64 r1, .int .i64 r2]) ∧ Below w.heap.size w w' := by
  have hu43 := Tryz.underlying43; have HR0_0 := Ak hr0_0; have HC0_0 := Ak hc0_0; clear hr0_0 hc0_0; have HB := Ak (Below.refl w.heap.size w); have H : ((bits_Check.f k l0_0 a0_1).bind fun t156 => (if t156 = 0 then (if a2 < 0 then (bits_Get.j0 k a1 a2 true l0_0 a0_1) else (if a2 > 32 then (bits_Get.j0 k a1 a2 true l0_0 a0_1) else (if a1 < 0 then (bits_Get.j0 k a1 a2 true l0_0 a0_1) else (bits_Get.j0 k a1 a2 (decide (a1 > a0_1)) l0_0 a0_1)))) else (bits_Get.j0 k a1 a2 true l0_0 a0_1))) = some (r1, r2) := h; clear h; have HC4 := Ak H; clear H; go_enter Tryz.func30, Tryz.ntmps30
  go_upto_region 1 with (((with_reducible refine gate_dst (N := 3) rfl ?_); refine box_event ?hg (N := 3) ?hd (cs := #[.slice A0_0 l0_0.length c0_0, .int .i64 a0_1]) (t := 43) ?hr ?_; (case hd => rfl); (case hg => rfl); (case hr => (go_simp; done)); intro gb155 hg w5 hbox hb; replace BK155 := Ak (hbox); replace GW155 := Ak ((by rw [hg]; exact (below_size bl_) : w.heap.size ≤ gb155)); replace GE155 := Ak ((by rw [hg]; exact (below_size bl_) : w.heap.size ≤ gb155)); replace HB := Ak (below_step bl_ hb); clear hb hbox hg))
  go_cut [30] (fun v30 wc => ∃ (kq : Nat) (x30_3 : Bool), v30 = .bool x30_3 ∧ Aside0 (bits_Get.j0 kq a1 a2 x30_3 l0_0 a0_1 = some (r1, r2)) ∧ Aside0 (kq ≤ k) ∧ Aside0 (wc.heap[gb155]? = some (.cells #[(.slice A0_0 l0_0.length c0_0), .int .i64 a0_1] 43 (0, 0))) ∧ Aside0 (Below w.heap.size w wc))
  case first =>
    have H := HC4.out; clear HC4; replace H := Option.bind_eq_some_iff.mp H; obtain ⟨t156, A60, H⟩ := H; replace H : (if t156 = 0 then (if a2 < 0 then (bits_Get.j0 k a1 a2 true l0_0 a0_1) else (if a2 > 32 then (bits_Get.j0 k a1 a2 true l0_0 a0_1) else (if a1 < 0 then (bits_Get.j0 k a1 a2 true l0_0 a0_1) else (bits_Get.j0 k a1 a2 (decide (a1 > a0_1)) l0_0 a0_1)))) else (bits_Get.j0 k a1 a2 true l0_0 a0_1)) = some (r1, r2) := H; have A6 := Ak A60; clear A60
    by_cases c7 : t156 = 0
    rotate_left
    · rw [if_neg c7] at H; have c7b0 : (t156 == 0) = false := beq_eq_false_iff_ne.mpr c7; have c7b1 : (t156 != 0) = true := bne_iff_ne.mpr c7
      have H' := Ak H; clear H; have hcz20_0 : w5.cell? ⟨gb155, 0, none⟩ = some (.slice A0_0 l0_0.length c0_0) := (blk_cell BK155.out 0).trans rfl; have hcz20_1 : w5.cell? ⟨gb155, 1, none⟩ = some (.int .i64 a0_1) := (blk_cell BK155.out 1).trans rfl; have hfz20_0 := blk_frozen BK155.out 0; have hfz20_1 := blk_frozen BK155.out 1
      go_wp2_with (((with_reducible refine gate_callee (f := 42) rfl ?_); refine gl (some 11) Tryz.func42 #[.agg #[.slice A0_0 l0_0.length c0_0, .int .i64 a0_1]] ?_; (with_reducible refine (bits_Check.calls k _ _ l0_0 a0_1 t156 _ ?side1 ?side2 A6.out).mono ?_); (case side1 => repeat (exact (Kd.C_below HR0_0.out HB.out))); (case side2 => exact HC0_0.out); rintro e w21 ⟨rfl, hb⟩; refine ⟨_, rfl, ?_⟩; replace BK155 := Ak (blk_below (g := gb155) (o := .cells #[.slice A0_0 l0_0.length c0_0, .int .i64 a0_1] 43 (0, 0)) (by (with_reducible repeat (fail)); exact BK155.out) hb); replace HB := Ak (below_step (by repeat ((with_reducible exact HB.out))) hb); (try clear hb)))
      go_meet
      case rel => exact ⟨_, (true), (by rfl), H', ⟨by omega⟩, ⟨by (with_reducible repeat (fail)); exact BK155.out⟩, ⟨by repeat ((with_reducible exact HB.out))⟩⟩
    rw [if_pos c7] at H; have c7b0 : (t156 == 0) = true := beq_iff_eq.mpr c7; have c7b1 : (t156 != 0) = false := bne_eq_false_iff_eq.mpr c7; clear c7
    by_cases c8 : a2 < 0
    · rw [if_pos c8] at H; have c8b0 : decide (a2 < 0) = true := decide_eq_true c8; clear c8; have H' := Ak H; clear H; have hcz9_0 : w5.cell? ⟨gb155, 0, none⟩ = some (.slice A0_0 l0_0.length c0_0) := (blk_cell BK155.out 0).trans rfl; have hcz9_1 : w5.cell? ⟨gb155, 1, none⟩ = some (.int .i64 a0_1) := (blk_cell BK155.out 1).trans rfl; have hfz9_0 := blk_frozen BK155.out 0; have hfz9_1 := blk_frozen BK155.out 1
      go_wp2_with (((with_reducible refine gate_callee (f := 42) rfl ?_); refine gl (some 11) Tryz.func42 #[.agg #[.slice A0_0 l0_0.length c0_0, .int .i64 a0_1]] ?_; (with_reducible refine (bits_Check.calls k _ _ l0_0 a0_1 t156 _ ?side1 ?side2 A6.out).mono ?_); (case side1 => repeat (exact (Kd.C_below HR0_0.out HB.out))); (case side2 => exact HC0_0.out); rintro e w10 ⟨rfl, hb⟩; refine ⟨_, rfl, ?_⟩; replace BK155 := Ak (blk_below (g := gb155) (o := .cells #[.slice A0_0 l0_0.length c0_0, .int .i64 a0_1] 43 (0, 0)) (by (with_reducible repeat (fail)); exact BK155.out) hb); replace HB := Ak (below_step (by repeat ((with_reducible exact HB.out))) hb); (try clear hb)))
      go_meet
      case rel => exact ⟨_, (true), (by rfl), H', ⟨by omega⟩, ⟨by (with_reducible repeat (fail)); exact BK155.out⟩, ⟨by repeat ((with_reducible exact HB.out))⟩⟩
    rw [if_neg c8] at H; have c8b0 : decide (a2 < 0) = false := decide_eq_false c8; clear c8
    by_cases c11 : a2 > 32
    · rw [if_pos c11] at H; have c11b0 : decide (32 < a2) = true := decide_eq_true c11; clear c11; have H' := Ak H; clear H; have hcz12_0 : w5.cell? ⟨gb155, 0, none⟩ = some (.slice A0_0 l0_0.length c0_0) := (blk_cell BK155.out 0).trans rfl; have hcz12_1 : w5.cell? ⟨gb155, 1, none⟩ = some (.int .i64 a0_1) := (blk_cell BK155.out 1).trans rfl; have hfz12_0 := blk_frozen BK155.out 0; have hfz12_1 := blk_frozen BK155.out 1
      go_wp2_with (((with_reducible refine gate_callee (f := 42) rfl ?_); refine gl (some 11) Tryz.func42 #[.agg #[.slice A0_0 l0_0.length c0_0, .int .i64 a0_1]] ?_; (with_reducible refine (bits_Check.calls k _ _ l0_0 a0_1 t156 _ ?side1 ?side2 A6.out).mono ?_); (case side1 => repeat (exact (Kd.C_below HR0_0.out HB.out))); (case side2 => exact HC0_0.out); rintro e w13 ⟨rfl, hb⟩; refine ⟨_, rfl, ?_⟩; replace BK155 := Ak (blk_below (g := gb155) (o := .cells #[.slice A0_0 l0_0.length c0_0, .int .i64 a0_1] 43 (0, 0)) (by (with_reducible repeat (fail)); exact BK155.out) hb); replace HB := Ak (below_step (by repeat ((with_reducible exact HB.out))) hb); (try clear hb)))
      go_meet
      case rel => exact ⟨_, (true), (by rfl), H', ⟨by omega⟩, ⟨by (with_reducible repeat (fail)); exact BK155.out⟩, ⟨by repeat ((with_reducible exact HB.out))⟩⟩
    rw [if_neg c11] at H; have c11b0 : decide (32 < a2) = false := decide_eq_false c11; clear c11
    by_cases c14 : a1 < 0
    · rw [if_pos c14] at H; have c14b0 : decide (a1 < 0) = true := decide_eq_true c14; clear c14; have H' := Ak H; clear H; have hcz15_0 : w5.cell? ⟨gb155, 0, none⟩ = some (.slice A0_0 l0_0.length c0_0) := (blk_cell BK155.out 0).trans rfl; have hcz15_1 : w5.cell? ⟨gb155, 1, none⟩ = some (.int .i64 a0_1) := (blk_cell BK155.out 1).trans rfl; have hfz15_0 := blk_frozen BK155.out 0; have hfz15_1 := blk_frozen BK155.out 1
      go_wp2_with (((with_reducible refine gate_callee (f := 42) rfl ?_); refine gl (some 11) Tryz.func42 #[.agg #[.slice A0_0 l0_0.length c0_0, .int .i64 a0_1]] ?_; (with_reducible refine (bits_Check.calls k _ _ l0_0 a0_1 t156 _ ?side1 ?side2 A6.out).mono ?_); (case side1 => repeat (exact (Kd.C_below HR0_0.out HB.out))); (case side2 => exact HC0_0.out); rintro e w16 ⟨rfl, hb⟩; refine ⟨_, rfl, ?_⟩; replace BK155 := Ak (blk_below (g := gb155) (o := .cells #[.slice A0_0 l0_0.length c0_0, .int .i64 a0_1] 43 (0, 0)) (by (with_reducible repeat (fail)); exact BK155.out) hb); replace HB := Ak (below_step (by repeat ((with_reducible exact HB.out))) hb); (try clear hb)))
      go_meet
      case rel => exact ⟨_, (true), (by rfl), H', ⟨by omega⟩, ⟨by (with_reducible repeat (fail)); exact BK155.out⟩, ⟨by repeat ((with_reducible exact HB.out))⟩⟩
    rw [if_neg c14] at H; have c14b0 : decide (a1 < 0) = false := decide_eq_false c14; clear c14; have H' := Ak H; clear H; have hcz17_0 : w5.cell? ⟨gb155, 0, none⟩ = some (.slice A0_0 l0_0.length c0_0) := (blk_cell BK155.out 0).trans rfl; have hcz17_1 : w5.cell? ⟨gb155, 1, none⟩ = some (.int .i64 a0_1) := (blk_cell BK155.out 1).trans rfl; have hfz17_0 := blk_frozen BK155.out 0; have hfz17_1 := blk_frozen BK155.out 1
    go_wp2_with (((with_reducible refine gate_callee (f := 42) rfl ?_); refine gl (some 11) Tryz.func42 #[.agg #[.slice A0_0 l0_0.length c0_0, .int .i64 a0_1]] ?_; (with_reducible refine (bits_Check.calls k _ _ l0_0 a0_1 t156 _ ?side1 ?side2 A6.out).mono ?_); (case side1 => repeat (exact (Kd.C_below HR0_0.out HB.out))); (case side2 => exact HC0_0.out); rintro e w18 ⟨rfl, hb⟩; refine ⟨_, rfl, ?_⟩; replace BK155 := Ak (blk_below (g := gb155) (o := .cells #[.slice A0_0 l0_0.length c0_0, .int .i64 a0_1] 43 (0, 0)) (by (with_reducible repeat (fail)); exact BK155.out) hb); replace HB := Ak (below_step (by repeat ((with_reducible exact HB.out))) hb); (try clear hb); have hcz19_0 : w18.cell? ⟨gb155, 0, none⟩ = some (.slice A0_0 l0_0.length c0_0) := (blk_cell BK155.out 0).trans rfl; have hcz19_1 : w18.cell? ⟨gb155, 1, none⟩ = some (.int .i64 a0_1) := (blk_cell BK155.out 1).trans rfl; have hfz19_0 := blk_frozen BK155.out 0; have hfz19_1 := blk_frozen BK155.out 1))
    go_meet
    case rel => exact ⟨_, (decide (a1 > a0_1)), (by rfl), H', ⟨by omega⟩, ⟨by (with_reducible repeat (fail)); exact BK155.out⟩, ⟨by repeat ((with_reducible exact HB.out))⟩⟩
  case rest =>
    clear HC4
    obtain ⟨kq, x30_3, rfl, HA, HJ3, BK155, HB⟩ := hcut
    cases kq with
    | zero => exact absurd HA.out (by simp [bits_Get.j0])
    | succ kj3 => ?_
    have H := HA.out; clear HA; simp only [bits_Get.j0] at H
    by_cases c22 : x30_3 = true
    · subst c22
      have H1 : (some (0, 2)) = some (r1, r2) := by rw [if_pos rfl] at H; exact H
      clear H; have H := H1; clear H1; simp only [Option.some.injEq, Prod.mk.injEq] at H; obtain ⟨rfl, rfl⟩ := H; go_wp2; go_ret2; exact ⟨by rfl, by repeat ((with_reducible exact HB.out))⟩
    replace c22 := Bool.eq_false_iff.mpr c22; subst c22
    have H1 : (if (wrap64 (a0_1 - a1)) < a2 then (some (0, 4)) else (bits_Get.l0 kj3 a1 0 a2 0 l0_0 a0_1)) = some (r1, r2) := by rw [if_neg (show ¬ (false = true) by decide)] at H; exact H
    clear H; have H := H1; clear H1
    by_cases c23 : (wrap64 (a0_1 - a1)) < a2
    · rw [if_pos c23] at H; have c23b0 : decide ((wrap64 (a0_1 - a1)) < a2) = true := decide_eq_true c23; clear c23; simp only [Option.some.injEq, Prod.mk.injEq] at H; obtain ⟨rfl, rfl⟩ := H; have hcz24_0 : wc.cell? ⟨gb155, 0, none⟩ = some (.slice A0_0 l0_0.length c0_0) := (blk_cell BK155.out 0).trans rfl; have hcz24_1 : wc.cell? ⟨gb155, 1, none⟩ = some (.int .i64 a0_1) := (blk_cell BK155.out 1).trans rfl; have hfz24_0 := blk_frozen BK155.out 0; have hfz24_1 := blk_frozen BK155.out 1; go_wp2; go_ret2; exact ⟨by rfl, by repeat ((with_reducible exact HB.out))⟩
    rw [if_neg c23] at H; have c23b0 : decide ((wrap64 (a0_1 - a1)) < a2) = false := decide_eq_false c23; clear c23; have H' := Ak H; clear H; have hcz25_0 : wc.cell? ⟨gb155, 0, none⟩ = some (.slice A0_0 l0_0.length c0_0) := (blk_cell BK155.out 0).trans rfl; have hcz25_1 : wc.cell? ⟨gb155, 1, none⟩ = some (.int .i64 a0_1) := (blk_cell BK155.out 1).trans rfl; have hfz25_0 := blk_frozen BK155.out 0; have hfz25_1 := blk_frozen BK155.out 1; go_wp2
    go_loopg [8, 38] kj3 (fun kq v8 v38 w' => ∃ (x8_2 : Int) (x38_2 : Int), v8 = .int .i64 x8_2 ∧ v38 = .int .i64 x38_2 ∧ Aside0 (bits_Get.l0 kq a1 x8_2 a2 x38_2 l0_0 a0_1 = some (r1, r2)) ∧ Aside0 (kq ≤ kj3) ∧ Aside0 (w'.heap[gb155]? = some (.cells #[(.slice A0_0 l0_0.length c0_0), .int .i64 a0_1] 43 (0, 0))) ∧ Aside0 (Below w.heap.size w w'))
    case atStart => exact ⟨(0), (0), (by rfl), (by rfl), H', ⟨Nat.le_refl _⟩, ⟨by (with_reducible repeat (fail)); exact BK155.out⟩, ⟨by repeat ((with_reducible exact HB.out))⟩⟩
    case round =>
      clear H'
      clear c23b0 hcz25_0 hcz25_1 hfz25_0 hfz25_1
      obtain ⟨x8_2, x38_2, rfl, rfl, HA, HK2, BK155, HB⟩ := hrel
      cases gk with
      | zero => exact absurd HA.out (by simp [bits_Get.l0])
      | succ k2 => ?_
      have H := HA.out; clear HA; simp only [bits_Get.l0] at H
      by_cases c26 : x38_2 < a2
      rotate_left
      · rw [if_neg c26] at H; have c26b0 : decide (x38_2 < a2) = false := decide_eq_false c26; clear c26; simp only [Option.some.injEq, Prod.mk.injEq] at H; obtain ⟨rfl, rfl⟩ := H; go_wp2; go_ret2; exact ⟨by rfl, by repeat ((with_reducible exact HB.out))⟩
      rw [if_pos c26] at H; have c26b0 : decide (x38_2 < a2) = true := decide_eq_true c26; clear c26; replace H := Option.bind_eq_some_iff.mp H; obtain ⟨t157, A270, H⟩ := H; replace H : (if 0 ≤ x38_2 then (bits_Get.l0 k2 a1 (Go.bits .or .i64 x8_2 (shl .i64 t157 x38_2)) a2 (wrap64 (x38_2 + 1)) l0_0 a0_1) else (none)) = some (r1, r2) := H; have A27 := Ak A270; clear A270
      by_cases c28 : 0 ≤ x38_2
      rotate_left
      · rw [if_neg c28] at H; exact absurd H (by simp)
      rw [if_pos c28] at H; have c28b0 := eq_true c28; have c28b1 : decide (0 ≤ x38_2) = true := decide_eq_true c28; clear c28; obtain ⟨ji29, hji29⟩ : ∃ j_ : Int, (shl .i64 t157 x38_2) = j_ := ⟨_, rfl⟩
      replace H : (bits_Get.l0 k2 a1 (Go.bits .or .i64 x8_2 (ji29)) a2 (wrap64 (x38_2 + 1)) l0_0 a0_1) = some (r1, r2) := by (rw [hji29] at H; exact H)
      have hji29_ : (IntKind.i64.wrap (t157 * 2 ^ min x38_2.toNat 64)) = ji29 := hji29; have hji29z : x38_2 ≤ 64 → (IntKind.i64.wrap (t157 * 2 ^ x38_2.toNat)) = ji29 := shl_small hji29; have hji29y : (wrap64 (t157 * 2 ^ min x38_2.toNat 64)) = ji29 := (i64_w _).symm.trans hji29_; have hji29x : x38_2 ≤ 64 → (wrap64 (t157 * 2 ^ x38_2.toNat)) = ji29 := fun h_ => (i64_w _).symm.trans (hji29z h_); have H' := Ak H; clear H; have hcz30_0 : wr.cell? ⟨gb155, 0, none⟩ = some (.slice A0_0 l0_0.length c0_0) := (blk_cell BK155.out 0).trans rfl; have hcz30_1 : wr.cell? ⟨gb155, 1, none⟩ = some (.int .i64 a0_1) := (blk_cell BK155.out 1).trans rfl; have hfz30_0 := blk_frozen BK155.out 0; have hfz30_1 := blk_frozen BK155.out 1
      go_wp2_with (((with_reducible refine gate_callee (f := 43) rfl ?_); refine gl (some 46) Tryz.func43 #[.agg #[.slice A0_0 l0_0.length c0_0, .int .i64 a0_1], .int .i64 (wrap64 (a1 + x38_2))] ?_; (with_reducible refine (bits_bit.calls _ _ l0_0 a0_1 (wrap64 (a1 + x38_2)) t157 _ ?side1 ?side2 A27.out).mono ?_); (case side1 => repeat (exact (Kd.C_below HR0_0.out HB.out))); (case side2 => exact HC0_0.out); rintro e w31 ⟨rfl, hb⟩; refine ⟨_, rfl, ?_⟩; replace BK155 := Ak (blk_below (g := gb155) (o := .cells #[.slice A0_0 l0_0.length c0_0, .int .i64 a0_1] 43 (0, 0)) (by (with_reducible repeat (fail)); exact BK155.out) hb); replace HB := Ak (below_step (by repeat ((with_reducible exact HB.out))) hb); (try clear hb)))
      go_roundg k2
      case measure => have := HJ3.out; have := HK2.out; omega
      case rel => exact ⟨(Go.bits .or .i64 x8_2 (ji29)), (wrap64 (x38_2 + 1)), (by rfl), (by rfl), H', ⟨by have := HJ3.out; have := HK2.out; omega⟩, ⟨by (with_reducible repeat (fail)); exact BK155.out⟩, ⟨by repeat ((with_reducible exact HB.out))⟩⟩

-- YtgflkkjhckcipaaGreatDoorIf1
open Go.RowKit Go.Shelf Go.Proofs.YtgflkkjhckcipaaGreatDoorW.PrintWords Go.Proofs.YtgflkkjhckcipaaGreatDoorW.PrintLast Go.Proofs.YtgflkkjhckcipaaGreatDoorW.PrintMore
def FaultAt (w : World) (p : Nat) (er : Int) : Prop := ∃ q, w.heap[p]? = some (.cells #[.iface 33 (.pointer (some ⟨q, 0, none⟩))] 98 (0, 0)) ∧ w.heap[q]? = some (.cells #[.int .i64 er] 40 (0, 0))
def Gives (n : Nat) (w w' : World) (er : Int) (e : Ending) : Prop := ∃ p, e = .panicked [{ v := .iface 96 (.pointer (some ⟨p, 0, none⟩)), recovered := false }] ∧ FaultAt w' p er ∧ Below n w w'
theorem Gives.from {n m : Nat} {w w1 w' : World} {er : Int} {e : Ending} (h : Gives m w1 w' er e) (hb : Below n w w1) (hn : n ≤ m) : Gives n w w' er e := by
  obtain ⟨p, he, hf, hb2⟩ := h; exact ⟨p, he, hf, hb.trans (hb2.mono hn)⟩
theorem stop_calls (er : Int) (w : World) : Calls Tryz.prog 21 #[.int .i64 er] w fun e w' => Gives w.heap.size w w' er e := by
  go_enter Tryz.func21, Tryz.ntmps21; go_wp2; have hq := blk_alloc (blk_new w (.cells #[.int .i64 er] 40 (0, 0))) (.cells #[.iface 33 (.pointer (some ⟨w.heap.size, 0, none⟩))] 98 (0, 0)); have hp := blk_new (w.alloc (.cells #[.int .i64 er] 40 (0, 0))) (.cells #[.iface 33 (.pointer (some ⟨w.heap.size, 0, none⟩))] 98 (0, 0)); have hb := below_alloc (below_alloc (Below.refl w.heap.size w) (.cells #[.int .i64 er] 40 (0, 0))) (.cells #[.iface 33 (.pointer (some ⟨w.heap.size, 0, none⟩))] 98 (0, 0)); simp only [World.size_alloc] at hp; exact ⟨rfl, _, rfl, ⟨_, hp, hq⟩, hb⟩
theorem must_zero (w : World) : Calls Tryz.prog 31 #[.int .i64 0] w fun e w' => e = .returned (.tuple #[]) ∧ w' = w := by
  go_enter Tryz.func31, Tryz.ntmps31; go_wp2
  go_end0
  exact ⟨rfl, rfl⟩
theorem must_else (er : Int) (h : er ≠ 0) (w : World) : Calls Tryz.prog 31 #[.int .i64 er] w fun e w' => Gives w.heap.size w w' er e := by
  have q := bne_iff_ne.2 h; go_enter Tryz.func31, Tryz.ntmps31
  go_wp2_with (go_at_call 21; refine (stop_calls er _).mono ?_; rintro e w' ⟨p, rfl, hf, hb⟩)
  exact ⟨rfl, p, rfl, hf, hb⟩
structure RdrAt (w0 w : World) (g : Nat) (A : Option Addr) (c : Nat) (l : List Int) (N at_ : Int) (v : Value) (out : List Int) (most : Int) : Prop where
  below : Below w0.heap.size w0 w
  ge : w0.heap.size ≤ g
  blk : w.heap[g]? = some (.cells #[.slice A l.length c, .int .i64 N, .int .i64 at_, v, .int .i64 most] 45 (0, 0))
  row : (Kd.int .u8).R 5 w w0.heap.size (fun _ => True) v out
structure Moved (w w' : World) (g : Nat) (v v' : Value) : Prop where
  size : w.heap.size ≤ w'.heap.size
  keep : ∀ k, k < w.heap.size → k ≠ g → some k ≠ v.ownBlock → w'.heap[k]? = w.heap[k]?
  own : v'.ownBlock = v.ownBlock ∨ ∃ j, w.heap.size ≤ j ∧ v'.ownBlock = some j
theorem Moved.of_below {w w' : World} (g : Nat) (v : Value) (h : Below w.heap.size w w') : Moved w w' g v v := ⟨h.size, fun k hk _ _ => h.block k hk, .inl rfl⟩
theorem Moved.trans {w w1 w2 : World} {g : Nat} {v v1 v2 : Value} (h : Moved w w1 g v v1) (k : Moved w1 w2 g v1 v2) : Moved w w2 g v v2 := by
  refine ⟨Nat.le_trans h.size k.size, fun i hi hg ho => ?_, ?_⟩
  · refine (k.keep i (Nat.lt_of_lt_of_le hi h.size) hg ?_).trans (h.keep i hi hg ho)
    rcases h.own with e | ⟨j, hj, e⟩
    · rw [e]; exact ho
    rw [e]; intro e2; injection e2 with e2; omega
  rcases k.own with e | ⟨j, hj, e⟩
  · rw [e]; exact h.own
  exact .inr ⟨j, Nat.le_trans h.size hj, e⟩
theorem Moved.set_ {w w1 : World} {g : Nat} {v v1 : Value} (h : Moved w w1 g v v1) (j : Nat) (u : Value) : Moved w (w1.setCell ⟨g, j, none⟩ u) g v v1 :=
  ⟨by simpa [World.setCell] using h.size, fun i hi hg ho => (Below.heap_setCell w1 ⟨g, j, none⟩ u i hg).trans (h.keep i hi hg ho), h.own⟩
theorem RdrAt.on {w0 w w' : World} {g c : Nat} {A : Option Addr} {l : List Int} {N at_ : Int} {v : Value} {out : List Int} {most : Int} (h : RdrAt w0 w g A c l N at_ v out most) (hb : Below w.heap.size w w') : RdrAt w0 w' g A c l N at_ v out most :=
  ⟨below_then h.below h.below.size hb, h.ge, blk_below h.blk hb, Kd.R_below h.row hb⟩
theorem RdrAt.setAt {w0 w : World} {g c : Nat} {A : Option Addr} {l : List Int} {N at_ : Int} {v : Value} {out : List Int} {most : Int} (h : RdrAt w0 w g A c l N at_ v out most) (x : Int) : RdrAt w0 (w.setCell ⟨g, 2, none⟩ (.int .i64 x)) g A c l N x v out most :=
  ⟨h.below.setCell (p := ⟨g, 2, none⟩) h.ge _, h.ge, blk_set h.blk 2 _, Kd.R_set h.row h.blk (by decide) 2 _⟩
-- YtgflkkjhckcipaaGreatDoorIf2
section
attribute [local go_sem] Oper.semAt_some
theorem rbits_calls (k : Nat) (w0 : World) (A : Option Addr) (c : Nat) (l : List Int) (hC : (Kd.int .u8).C w0 A l.length l) (hc : l.length ≤ c) (w : World) (g : Nat) (N at_ : Int) (v : Value) (out : List Int) (most : Int) (n r1 r2 : Int) (H : RdrAt w0 w g A c l N at_ v out most) (hf : bits_Get.f k l N at_ n = some (r1, r2)) :
    Calls Tryz.prog 17 #[.pointer (some ⟨g, 0, none⟩), .int .i64 n] w fun e w' => (r2 = 0 ∧ e = .returned (.int .i64 r1) ∧ RdrAt w0 w' g A c l N (wrap64 (at_ + n)) v out most ∧ Moved w w' g v v) ∨ (r2 ≠ 0 ∧ Gives w0.heap.size w w' r2 e) := by
  have HF := Ak hf; clear hf; have HB := Ak H.below; have GE := Ak H.ge; have H0 := Ak H.below.size; have BG := Ak H.blk; have HO := Ak H.row; have HC := Ak hC; have HCc := Ak hc; have HW := Ak (Below.refl w.heap.size w); clear H hC hc; have huR := Tryz.underlying45; have huB := Tryz.underlying43
  by_cases h2 : r2 = 0
  · subst h2; go_enter Tryz.func17, Tryz.ntmps17
    go_upto_region 1 with (fail)
    replace HB := Ak (below_drew1 HB.out); replace BG := Ak (blk_drew BG.out); replace HO := Ak (Kd.R_drew HO.out); replace HW := Ak (below_drew1 HW.out); refine sq 15 (S := fun w' => w'.cell? ⟨g, 0, none⟩ = some (.slice A l.length c) ∧ w'.cell? ⟨g, 1, none⟩ = some (.int .i64 N) ∧ w'.cell? ⟨g, 2, none⟩ = some (.int .i64 at_)) (ds := []) ⟨(blk_cell BG.out 0).trans rfl, (blk_cell BG.out 1).trans rfl, (blk_cell BG.out 2).trans rfl⟩ fun hHeld => ?_; generalize w.drew = wd at HB BG HO HW hHeld ⊢; refine pq 0 8 ?_; refine pq 1 9 ?_; refine pq 2 10 ?_; refine pq 4 12 ?_; refine pq 5 13 ?_; refine pq 6 14 ?_; refine pq 8 16 ?_; refine tq 3 11 ?_ hHeld; refine tq 7 15 ?_ hHeld; refine oq 9 17 fun K hK => ?_; refine gq Tryz.func30 #[.agg #[.slice A l.length c, .int .i64 N], .int .i64 at_, .int .i64 n] ?_
    with_reducible refine (bits_Get.calls k A c l N at_ n r1 0 _ (Kd.C_below HC.out HB.out) HCc.out HF.out).mono ?_
    rintro e w5 ⟨rfl, hb⟩; refine ⟨_, rfl, ?_⟩; replace HB := Ak (below_then HB.out HB.out.size hb); replace BG := Ak (blk_below BG.out hb); replace HO := Ak (Kd.R_below HO.out hb); replace HW := Ak (below_then HW.out HW.out.size hb); clear hb; refine hK.out _ _ ⟨(blk_cell BG.out 0).trans rfl, (blk_cell BG.out 1).trans rfl, (blk_cell BG.out 2).trans rfl⟩ (fun hHeld => ?_); clear hK K; refine nq 17 ?_; refine pq 10 7 ?_; refine pq 11 18 ?_; refine pq 12 19 ?_; refine pq 13 5 ?_; refine pq 14 6 ?_; refine dq ?_; have hc2 : w5.cell? ⟨g, 2, none⟩ = some (.int .i64 at_) := (blk_cell BG.out 2).trans rfl; have hf2 := blk_frozen BG.out 2
    go_wp2_with (go_at_call 31; refine (must_zero _).mono ?_; rintro e w' ⟨rfl, rfl⟩)
    go_ret; exact .inl ⟨trivial, rfl, RdrAt.setAt ⟨HB.out, GE.out, BG.out, HO.out⟩ _, (Moved.of_below g v HW.out).set_ 2 _⟩
  have HN := Ak h2; clear h2; go_enter Tryz.func17, Tryz.ntmps17
  go_upto_region 1 with (fail)
  replace HB := Ak (below_drew1 HB.out); replace BG := Ak (blk_drew BG.out); replace HO := Ak (Kd.R_drew HO.out); replace HW := Ak (below_drew1 HW.out); refine sq 15 (S := fun w' => w'.cell? ⟨g, 0, none⟩ = some (.slice A l.length c) ∧ w'.cell? ⟨g, 1, none⟩ = some (.int .i64 N) ∧ w'.cell? ⟨g, 2, none⟩ = some (.int .i64 at_)) (ds := []) ⟨(blk_cell BG.out 0).trans rfl, (blk_cell BG.out 1).trans rfl, (blk_cell BG.out 2).trans rfl⟩ fun hHeld => ?_; generalize w.drew = wd at HB BG HO HW hHeld ⊢; refine pq 0 8 ?_; refine pq 1 9 ?_; refine pq 2 10 ?_; refine pq 4 12 ?_; refine pq 5 13 ?_; refine pq 6 14 ?_; refine pq 8 16 ?_; refine tq 3 11 ?_ hHeld; refine tq 7 15 ?_ hHeld; refine oq 9 17 fun K hK => ?_; refine gq Tryz.func30 #[.agg #[.slice A l.length c, .int .i64 N], .int .i64 at_, .int .i64 n] ?_
  with_reducible refine (bits_Get.calls k A c l N at_ n r1 r2 _ (Kd.C_below HC.out HB.out) HCc.out HF.out).mono ?_
  rintro e w5 ⟨rfl, hb⟩; refine ⟨_, rfl, ?_⟩; replace HB := Ak (below_then HB.out HB.out.size hb); replace BG := Ak (blk_below BG.out hb); replace HO := Ak (Kd.R_below HO.out hb); replace HW := Ak (below_then HW.out HW.out.size hb); clear hb; refine hK.out _ _ ⟨(blk_cell BG.out 0).trans rfl, (blk_cell BG.out 1).trans rfl, (blk_cell BG.out 2).trans rfl⟩ (fun hHeld => ?_); clear hK K; refine nq 17 ?_; refine pq 10 7 ?_; refine pq 11 18 ?_; refine pq 12 19 ?_; refine pq 13 5 ?_; refine pq 14 6 ?_; refine dq ?_
  go_wp2_with (go_at_call 31; refine (must_else r2 HN.out _).mono ?_; rintro e w' ⟨p, rfl, hfa, hb⟩)
  exact ⟨rfl, .inr ⟨HN.out, p, rfl, hfa, (HW.out.mono H0.out).trans (hb.mono HB.out.size)⟩⟩
end
-- YtgflkkjhckcipaaGreatDoorIf25
section
attribute [local go_sem] Oper.semAt_some
abbrev Handle (w : World) : Prop := w.cell? ⟨0, 0, none⟩ = some (.iface 75 (.agg #[.pointer (some ⟨1, 35, none⟩)]))
theorem Handle.on {n : Nat} {w w' : World} (h : Handle w) (hb : Below n w w') (hn : 0 < n) : Handle w' := by
  show w'.cell? ⟨0, 0, none⟩ = _
  have e : w'.cell? ⟨0, 0, none⟩ = w.cell? ⟨0, 0, none⟩ := by simp only [World.cell?, hb.block 0 hn]
  rw [e]; exact h
theorem Handle.pos {w : World} (h : Handle w) : 0 < w.heap.size := by
  rcases Nat.eq_zero_or_pos w.heap.size with h0 | h1
  · have h2 : w.cell? ⟨0, 0, none⟩ = _ := h
    simp [World.cell?, h0] at h2
  exact h1
theorem as_told (n p q t : Nat) (old : Value) (w : World) (hn : n ≤ t) (hg : Handle w) (hp : w.heap[p]? = some (.cells #[.iface 33 (.pointer (some ⟨q, 0, none⟩))] 98 (0, 0))) (ht : w.heap[t]? = some (.cells #[old] 33 (0, 0))) :
    Calls Tryz.prog 10 #[.iface 96 (.pointer (some ⟨p, 0, none⟩)), .iface 38 (.pointer (some ⟨t, 0, none⟩))] w fun ev w' => ev = .returned (.bool true) ∧ w'.heap[t]? = some (.cells #[.pointer (some ⟨q, 0, none⟩)] 33 (0, 0)) ∧ (∀ k, k < w.heap.size → k ≠ t → w'.heap[k]? = w.heap[k]?) ∧ Below n w w' := by
  refine (as_within ⟨p, 0, none⟩ ⟨q, 0, none⟩ ⟨t, 0, none⟩ old w hg ((blk_cell hp 0).trans rfl) rfl ((blk_cell ht 0).trans rfl) (blk_frozen ht 0)).mono ?_; rintro ev w' ⟨rfl, rfl⟩; have hb := below_alloc (below_alloc (below_alloc (below_alloc (Below.refl w.heap.size w) (.cells #[.pointer (some ⟨t, 0, none⟩)] 38)) (.cells #[.pointer (some ⟨1, 38, none⟩), .pointer (some ⟨w.heap.size, 0, none⟩), .int .u64 150] 54)) (.cells #[.pointer (some ⟨1, 38, none⟩), .pointer (some ⟨w.heap.size, 0, none⟩), .int .u64 150] 54)) (.cells #[.pointer (some ⟨q, 0, none⟩)] 33); refine ⟨rfl, (blk_set (blk_below ht hb) 0 _).trans rfl, fun k hk hne => (Below.heap_setCell _ ⟨t, 0, none⟩ _ k hne).trans (hb.block k hk), (hb.mono (Nat.le_of_lt (Nat.lt_of_le_of_lt hn (blk_lt ht)))).setCell (p := ⟨t, 0, none⟩) hn _⟩
theorem assert_within (v : Value) (w : World) : Sem.run Tryz.prog (Instr.typeAssert (.iface 96 v) 20 35 true) w = .ok (.tuple #[.iface 96 v, .bool true]) w := Go.run_typeAssert_hasB Tryz.underlying35 (by kernel_rfl) v 20 w
attribute [local go_sem] assert_within
theorem fr_ (X pa pb pc : Value) : #[pa, pb, pc] ++ ((Array.replicate 23 undef).setIfInBounds 4 X).setIfInBounds 0 X = #[pa, pb, pc, X, undef, undef, undef, X, undef, undef, undef, undef, undef, undef, undef, undef, undef, undef, undef, undef, undef, undef, undef, undef, undef, undef] := by kernel_rfl
theorem dcatchQ (a b c p q : Nat) (x0 x1 x2 : Value) (t0 t1 t2 : TypeId) (er : Int) (older : List PanicEntry) (w : World) (h01 : a < b) (h12 : b < c) (hg : Handle w)
    (h0 : w.heap[a]? = some (.cells #[x0] t0 (0, 0))) (h1 : w.heap[b]? = some (.cells #[x1] t1 (0, 0))) (h2 : w.heap[c]? = some (.cells #[x2] t2 (0, 0)))
    (hp : w.heap[p]? = some (.cells #[.iface 33 (.pointer (some ⟨q, 0, none⟩))] 98 (0, 0))) (hq : w.heap[q]? = some (.cells #[.int .i64 er] 40 (0, 0)))
    (Q : Ending → FrameMode → World → Prop) (hQ : ∀ w1 : World, w1.heap[a]? = some (.cells #[x0] t0 (0, 0)) → w1.heap[b]? = some (.cells #[x1] t1 (0, 0)) → w1.heap[c]? = some (.cells #[x2] t2 (0, 0)) → Below w.heap.size w w1 → Q (.returned (.tuple #[])) (.panicking ({ v := .iface 96 (.pointer (some ⟨p, 0, none⟩)), recovered := true } :: older)) (((w1.setCell ⟨a, 0, none⟩ (.slice none 0 0)).setCell ⟨b, 0, none⟩ (.int .i64 0)).setCell ⟨c, 0, none⟩ (.int .i64 er))) :
    CallsD Tryz.prog 9 #[.pointer (some ⟨a, 0, none⟩), .pointer (some ⟨b, 0, none⟩), .pointer (some ⟨c, 0, none⟩)] (.panicking ({ v := .iface 96 (.pointer (some ⟨p, 0, none⟩)), recovered := false } :: older)) w Q := by
  have huF := Tryz.underlying40; have B1 := below_alloc (Below.refl w.heap.size w) (.cells #[.pointer none] 33); have hT := blk_new w (.cells #[.pointer none] 33); have GP := hg.pos; have HG1 := Ak (hg.on B1 GP); have HP1 := Ak (blk_below hp B1); have HT1 := Ak hT; have HS1 := Ak (World.size_alloc w (.cells #[.pointer none] 33)); have L0 := Ak (blk_lt h0); have L1 := Ak (blk_lt h1); have L2 := Ak (blk_lt h2); have LQ := Ak (blk_lt hq); have W0 := Ak (blk_below h0 B1); have W1 := Ak (blk_below h1 B1); have W2 := Ak (blk_below h2 B1); have WQ := Ak (blk_below hq B1); have HB1 := Ak B1; have HQ := Ak hQ; have N1 := Ak h01; have N2 := Ak h12; clear B1 hT hg hp h0 h1 h2 hq GP hQ h01 h12; refine callsD_of_wpS Tryz.func9 rfl fun c₀ cs hu => ?_
  apply wpS_seq
  apply wpS_region
  simp [wpOpsS, go_sem, recoverD, hu, Tryz.ntmps9, Exit.thenS]
  apply wpS_of_wp
  rw [fr_]
  go_wp2_with (go_at_call 10; refine (as_told w.heap.size p q w.heap.size _ _ (Nat.le_refl _) HG1.out HP1.out HT1.out).mono ?_; rintro e w' ⟨rfl, ht, hk, hb⟩; have ct := (blk_cell ht 0).trans rfl; (have F0 := (hk a (by rw [HS1.out]; have := L0.out; omega) (by have := L0.out; omega)).trans W0.out); (have F1 := (hk b (by rw [HS1.out]; have := L1.out; omega) (by have := L1.out; omega)).trans W1.out); (have F2 := (hk c (by rw [HS1.out]; have := L2.out; omega) (by have := L2.out; omega)).trans W2.out); (have FQ := (hk q (by rw [HS1.out]; have := LQ.out; omega) (by have := LQ.out; omega)).trans WQ.out); (have ct2 : w'.cell? ⟨w.heap.size, 0, none⟩ = some (.pointer (some ⟨q, 0, none⟩)) := (blk_cell ht 0).trans rfl); (have cq : w'.cell? ⟨q, 0, none⟩ = some (.int .i64 er) := (blk_cell FQ 0).trans rfl); (have c0 : w'.cell? ⟨a, 0, none⟩ = some x0 := (blk_cell F0 0).trans rfl); (have c1 : w'.cell? ⟨b, 0, none⟩ = some x1 := (blk_cell F1 0).trans rfl); (have c2 : w'.cell? ⟨c, 0, none⟩ = some x2 := (blk_cell F2 0).trans rfl); (have f0 := blk_frozen F0 0); (have f1 := blk_frozen F1 0); (have f2 := blk_frozen F2 0); (have n0 : a ≠ b := by have := N1.out; omega); (have n1 : a ≠ c := by have := N1.out; have := N2.out; omega); (have n2 : b ≠ c := by have := N2.out; omega); have S0 := Ak F0; have S1 := Ak F1; have S2 := Ak F2; have HBB := Ak hb; clear ht hk hb ct FQ F0 F1 F2)
  simp [bodyPostS, results, Tryz.results9]
  exact HQ.out _ S0.out S1.out S2.out (HB1.out.trans HBB.out)
theorem dcatch (n a b c p q : Nat) (x0 x1 x2 : Value) (t0 t1 t2 : TypeId) (er : Int) (older : List PanicEntry) (w : World) (hn : n ≤ a) (h01 : a < b) (h12 : b < c) (hg : Handle w)
    (h0 : w.heap[a]? = some (.cells #[x0] t0 (0, 0))) (h1 : w.heap[b]? = some (.cells #[x1] t1 (0, 0))) (h2 : w.heap[c]? = some (.cells #[x2] t2 (0, 0)))
    (hp : w.heap[p]? = some (.cells #[.iface 33 (.pointer (some ⟨q, 0, none⟩))] 98 (0, 0))) (hq : w.heap[q]? = some (.cells #[.int .i64 er] 40 (0, 0))) :
    CallsD Tryz.prog 9 #[.pointer (some ⟨a, 0, none⟩), .pointer (some ⟨b, 0, none⟩), .pointer (some ⟨c, 0, none⟩)] (.panicking ({ v := .iface 96 (.pointer (some ⟨p, 0, none⟩)), recovered := false } :: older)) w fun e u' w' =>
      e = .returned (.tuple #[]) ∧ u' = .panicking ({ v := .iface 96 (.pointer (some ⟨p, 0, none⟩)), recovered := true } :: older) ∧ w'.cell? ⟨a, 0, none⟩ = some (.slice none 0 0) ∧ w'.cell? ⟨b, 0, none⟩ = some (.int .i64 0) ∧ w'.cell? ⟨c, 0, none⟩ = some (.int .i64 er) ∧ Below n w w' := by
  refine dcatchQ a b c p q x0 x1 x2 t0 t1 t2 er older w h01 h12 hg h0 h1 h2 hp hq _ fun w1 d0 d1 d2 hb => ⟨rfl, rfl, ?_, ?_, ?_, ?_⟩
  all_goals
    have k1 : ∀ (W : World) (g j : Nat) (u : Value), j ≠ g → (W.setCell ⟨g, 0, none⟩ u).heap[j]? = W.heap[j]? := fun W g j u hne => Below.heap_setCell W ⟨g, 0, none⟩ u j hne; have s0 := blk_set d0 0 (.slice none 0 0); have s1 := blk_set ((k1 w1 a b (.slice none 0 0) (by omega)).trans d1) 0 (.int .i64 0); have s2 := blk_set ((k1 _ b c (.int .i64 0) (by omega)).trans ((k1 w1 a c (.slice none 0 0) (by omega)).trans d2)) 0 (.int .i64 er)
  · exact (blk_cell ((k1 _ c a (.int .i64 er) (by omega)).trans ((k1 _ b a (.int .i64 0) (by omega)).trans s0)) 0).trans rfl
  · exact (blk_cell ((k1 _ c b (.int .i64 er) (by omega)).trans s1) 0).trans rfl
  · exact (blk_cell s2 0).trans rfl
  have la := blk_lt h0; exact (((hb.mono (by omega)).setCell (p := ⟨a, 0, none⟩) hn _).setCell (p := ⟨b, 0, none⟩) (by show n ≤ b; omega) _).setCell (p := ⟨c, 0, none⟩) (by show n ≤ c; omega) _
theorem didle (a b c : Nat) (w : World) :
    CallsD Tryz.prog 9 #[.pointer (some ⟨a, 0, none⟩), .pointer (some ⟨b, 0, none⟩), .pointer (some ⟨c, 0, none⟩)] .returning w fun e u' w' => e = .returned (.tuple #[]) ∧ u' = .returning ∧ w' = w := by
  refine callsD_of_wpS Tryz.func9 rfl fun c₀ cs hu => ?_
  apply wpS_seq
  apply wpS_region
  simp [wpOpsS, go_sem, recoverD, hu, Tryz.ntmps9, Exit.thenS]
  apply wpS_of_wp
  rw [fr_]; go_wp2; cases c₀
  simp_all [bodyPostS, results, Tryz.results9]
end
end Go.Proofs.YtgflkkjhckcipaaGreatDoor.Pr

-- YtgflkkjhckcipaaGreatDoorHu1
namespace Go.Proofs.YtgflkkjhckcipaaGreatDoor.Hu
open Go.RowKit Go.Shelf Go.Proofs.YtgflkkjhckcipaaGreatDoorW.PrintWords Go.Proofs.YtgflkkjhckcipaaGreatDoorW.PrintLast Go.Proofs.YtgflkkjhckcipaaGreatDoorW.PrintMore
set_option linter.unusedVariables false
set_option linter.unusedSimpArgs false
def usedL (zs : List Int) (k : Nat) : List (Nat × Int) := ((List.range k).map fun j => (j, zs[j]?.getD 0)).filter fun x => decide (x.2 ≠ 0)
theorem usedL_zero (zs : List Int) : usedL zs 0 = [] := rfl
theorem usedL_succ (zs : List Int) (k : Nat) : usedL zs (k + 1) = if zs[k]?.getD 0 = 0 then usedL zs k else usedL zs k ++ [(k, zs[k]?.getD 0)] := by
  unfold usedL; rw [List.range_succ, List.map_append, List.filter_append]
  by_cases h : zs[k]?.getD 0 = 0
  · rw [if_pos h]
    simp [h]
  rw [if_neg h]
  simp [h]
theorem usedL_len (zs : List Int) (k : Nat) : (usedL zs k).length ≤ k := by
  unfold usedL; refine Nat.le_trans (List.length_filter_le _ _) ?_
  simp
theorem usedL_sub (zs : List Int) {k : Nat} (hk : k ≤ zs.length) : ∀ x ∈ usedL zs k, x ∈ usedL zs zs.length := by
  intro x hx; unfold usedL at hx ⊢; rw [List.mem_filter, List.mem_map] at hx ⊢; obtain ⟨⟨j, hj, rfl⟩, h2⟩ := hx; rw [List.mem_range] at hj; exact ⟨⟨j, List.mem_range.2 (by omega), rfl⟩, h2⟩
section
attribute [local go_sem] Oper.semAt_some
theorem used1_in (F : Fence) (n : Nat) (hF : F.fn 88) (hro : F.round = none) (hn : 1 ≤ n) (l Bs n₀ : Nat) (A : Option Addr) (len cap : Nat) (zs : List Int) (hz : len = zs.length) (hreach : len * 8 ≤ 140737488355328) (hb : ∀ ad, A = some ad → ad.block < n₀) (J Jx : List (Nat × Int) → World → Prop)
    (hY : ∀ pre x W, J pre W → pre.length < len → YieldAt F (n - 1) Tryz.prog l #[.int .i64 (x.1 : Int), .int .i64 x.2] W fun e W' =>
      (e = .returned (.bool true) ∧ J (pre ++ [x]) W' ∧ Below n₀ W W') ∨ (e = .returned (.bool false) ∧ Jx (pre ++ [x]) W'))
    (W : World) (hBs : W.cell? ⟨Bs, 0, none⟩ = some (.slice A len cap)) (hc : (Kd.int .i64).C W A len zs) (h0 : J [] W) :
    CallsIn F n Tryz.prog 88 #[.func (.yield l) #[] #[], .pointer (some ⟨Bs, 0, none⟩)] W fun e W' => (∃ v, e = .returned v) ∧
      ((∃ ys, ys = usedL zs len ∧ J ys W') ∨ (∃ pre, (∃ k, k ≤ len ∧ pre = usedL zs k) ∧ Jx pre W')) := by
  refine callsIn_of_wp Tryz.func88 rfl hF ?_ hro; simp only [Tryz.ntmps88, List.size_toArray, List.length_cons, List.length_nil, Nat.reduceAdd, Nat.reduceSub, Array.replicate_succ, Array.replicate_zero, List.push_toArray, List.append_toArray, List.nil_append, List.cons_append]
  gi_wp2
  gi_loopw [7] (fun i wr => ∃ k : Nat, k ≤ len ∧ i = .int .i64 k ∧ J (usedL zs k) wr ∧ Below n₀ W wr)
    (fun i _ => len - (intOf i).toNat)
  case atStart => exact ⟨0, Nat.zero_le _, rfl, h0, Below.refl _ _⟩
  case round =>
    obtain ⟨k, hk, rfl, hJs, hnx⟩ := hrel
    by_cases hlt : k < len
    rotate_left
    · obtain rfl : k = len := by omega
      gi_wp2
      go_end0
      exact ⟨⟨_, rfl⟩, .inl ⟨_, rfl, hJs⟩⟩
    obtain ⟨ad, rfl, hx⟩ := Kd.at_int hc (k : Int) (by omega) (by omega); rw [Int.toNat_natCast] at hx; have hcx : wr.cell? (ad.add k) = some (.int .i64 (zs[k]?.getD 0)) := (hnx.cell (p := ad.add k) (show (ad.add k).block < n₀ by rw [show (ad.add k).block = ad.block by unfold Addr.add; split <;> rfl]; exact hb ad rfl)).trans (by rw [hx]; unfold rd; rw [Int.toNat_natCast, List.getD_eq_getElem?_getD]); clear hx; obtain ⟨v, hv⟩ : ∃ v, zs[k]?.getD 0 = v := ⟨_, rfl⟩; have hs := usedL_succ zs k; rw [hv] at hcx hs
    by_cases h0v : v = 0
    · rw [if_pos h0v] at hs; have hq := eq_true h0v; have hqb : (v != 0) = false := bne_eq_false_iff_eq.mpr h0v; have hqc : (v == 0) = true := beq_iff_eq.mpr h0v; clear hv

      gi_wp2

      refine ⟨fun _ h => (by cases h), ?_⟩
      gi_wp2
      go_roundw
      case rel => exact ⟨k + 1, by omega, by simp, by rw [hs]; exact hJs, hnx⟩
      case measure => simp [intOf]; omega
    rw [if_neg h0v] at hs; have hqb : (v != 0) = true := bne_iff_ne.mpr h0v; have hqc : (v == 0) = false := beq_eq_false_iff_ne.mpr h0v; clear hv; obtain ⟨fn, tmps, assign, body, hy, hR⟩ := hY _ (k, v) wr hJs (Nat.lt_of_le_of_lt (usedL_len zs k) hlt); dsimp only at hy
    gi_wp2
    refine hR.mono ?_; rintro e W3 (⟨rfl, hJ3, hk3⟩ | ⟨rfl, hJx3⟩)
    · gi_wp2
      go_roundw
      case rel => exact ⟨k + 1, by omega, by simp, by rw [hs]; exact hJ3, hnx.trans hk3⟩
      case measure => simp [intOf]; omega
    gi_wp2
    refine bodyPost_ret (results_none rfl _ _ _) rfl ?_; exact ⟨⟨_, rfl⟩, .inr ⟨_, ⟨k + 1, by omega, hs.symm⟩, hJx3⟩⟩
end
theorem used_stops (F : Fence) (n : Nat) (hF : F.fn 88) (hro : F.round = none) (hn : 1 ≤ n) (Bs n₀ : Nat) (A : Option Addr) (len cap : Nat) (zs : List Int) (hz : len = zs.length) (hreach : len * 8 ≤ 140737488355328) (hb : ∀ ad, A = some ad → ad.block < n₀) (w : World) (hBs : Bs < w.heap.size) (hn₀ : n₀ ≤ w.heap.size)
    (hc : w.cell? ⟨Bs, 0, none⟩ = some (.slice A len cap)) (hI : (Kd.int .i64).C w A len zs) :
    SeqStopsK F n Tryz.prog 88 #[.pointer (some ⟨Bs, 0, none⟩)] (fun x : Nat × Int => #[Value.int .i64 (x.1 : Int), Value.int .i64 x.2]) (Below n₀) (fun ys => ys = usedL zs zs.length)
      (fun pre => ∃ k, k ≤ zs.length ∧ pre = usedL zs k) zs.length w := fun l J Jx W hW _ _ hY h0 => by
  subst hz; exact used1_in F n hF hro hn l Bs n₀ A zs.length cap zs rfl hreach hb J Jx hY W ((hW.cell (p := ⟨Bs, 0, none⟩) hBs).trans hc) (Kd.C_below hI hW) h0
section
attribute [local go_sem] Oper.semAt_some
theorem used_in (F : Fence) (n : Nat) (hF : F.fn 70) (hro : F.round = none) (a : Option Addr) (len cap : Nat) (w : World) :
    CallsIn F n Tryz.prog 70 #[.slice a len cap] w fun e w' => e = .returned (.func (.func 88) #[] #[.pointer (some ⟨w.heap.size, 0, none⟩)]) ∧ w' = w.alloc (.cells #[.slice a len cap] 68) := by
  refine callsIn_of_wp Tryz.func70 rfl hF ?_ hro; simp only [Tryz.ntmps70, List.size_toArray, List.length_cons, List.length_nil, Nat.reduceAdd, Nat.reduceSub, Array.replicate_succ, Array.replicate_zero, List.push_toArray, List.append_toArray, List.nil_append, List.cons_append]
  gi_wp2
  go_ret; exact ⟨rfl, rfl⟩
end
def cntStep (c : List Int) (x : Nat × Int) : List Int := c.set x.2.toNat (wrap64 (rd c x.2 + 1))
def cntL (pre : List (Nat × Int)) : List Int := pre.foldl cntStep (List.replicate 16 0)
theorem cntL_snoc (pre : List (Nat × Int)) (x : Nat × Int) : cntL (pre ++ [x]) = cntStep (cntL pre) x := by unfold cntL; rw [List.foldl_append]; rfl
theorem cntL_len (pre : List (Nat × Int)) : (cntL pre).length = 16 := by
  have : ∀ (c : List Int), c.length = 16 → (pre.foldl cntStep c).length = 16 := by
    induction pre with
    | nil => intro c h; exact h
    | cons x pre ih => intro c h; exact ih _ (by unfold cntStep; rw [List.length_set]; exact h)
  exact this _ (by simp)
def Lok (x : Int) : Prop := 0 ≤ x ∧ x ≤ 15
instance (x : Int) : Decidable (Lok x) := by unfold Lok; infer_instance
def zero16 : List Int := List.replicate 16 0
def countedS (zs : List Int) : List Int × Bool := if zs.length < 1 ∨ 288 < zs.length then (zero16, false) else if (usedL zs zs.length).all (fun x => decide (Lok x.2)) then (cntL (usedL zs zs.length), true) else (zero16, false)
def agg16 (c : List Int) : Value := .agg (c.map (Value.int .i64)).toArray
def CountedPost (zs : List Int) (w : World) (e : Ending) (w' : World) : Prop := e = .returned (.tuple #[agg16 (countedS zs).1, .bool (countedS zs).2]) ∧ Below w.heap.size w w'
end Go.Proofs.YtgflkkjhckcipaaGreatDoor.Hu

