-- Texts by hand and by programs of this session, joined (wip/tool/merge.py).
import Derived.Shelf.Abstract
import Derived.Shelf.RegionOpen
import Derived.OwnWalkIn
import Derived.TacticsInMore
import Derived.LoopNIn
import Derived.LoopIn
import Derived.Test.YtgflkkjhckcipaaGreatDoorMID16
import Derived.Test.YtgflkkjhckcipaaGreatDoorMID17
-- YtgflkkjhckcipaaGreatDoorIf42
set_option maxHeartbeats 16000000
set_option maxRecDepth 1000000
namespace Go.Proofs.YtgflkkjhckcipaaGreatDoor.Pr
open Go.RowKit Go.Shelf Go.Proofs.YtgflkkjhckcipaaGreatDoorW.PrintWords Go.Proofs.YtgflkkjhckcipaaGreatDoorW.PrintLast Go.Proofs.YtgflkkjhckcipaaGreatDoorW.PrintMore
set_option linter.unusedVariables false
set_option linter.unusedSimpArgs false
section
attribute [local go_sem] Oper.semAt_some
theorem sget_calls (k : Nat) (w0 : World) (A : Option Addr) (c : Nat) (l : List Int) (hC : (Kd.int .u8).C w0 A l.length l) (hc : l.length ≤ c) (w : World) (g : Nat) (N at_ : Int) (v : Value) (out : List Int) (most : Int) (n r1 r2 : Int) (H : StAt w0 w g A c l N at_ v out most) (hf : Pv.valiseref01_Get.f k l N at_ n = some (r1, r2)) :
    Calls Tryz.prog 22 #[.pointer (some ⟨g, 0, none⟩), .int .i64 n] w fun e w' => (r2 = 0 ∧ e = .returned (.tuple #[.int .i64 r1, .int .i64 0]) ∧ StAt w0 w' g A c l N (wrap64 (at_ + n)) v out most ∧ Moved w w' g v v) ∨ (r2 ≠ 0 ∧ e = .returned (.tuple #[.int .i64 0, .int .i64 4]) ∧ Below w0.heap.size w w') := by
  have HF := Ak hf; clear hf; have HB := Ak H.below; have GE := Ak H.ge; have H0 := Ak H.below.size; have BG := Ak H.blk; have HO := Ak H.row; have HC := Ak hC; have HCc := Ak hc; have HW := Ak (Below.refl w.heap.size w); clear H hC hc; have huR := Tryz.underlying48; have huB := Tryz.underlying43
  by_cases h2 : r2 = 0
  · subst h2; go_enter Tryz.func22, Tryz.ntmps22
    go_upto_region 1 with (fail)
    replace HB := Ak (below_drew1 HB.out); replace BG := Ak (blk_drew BG.out); replace HO := Ak (Kd.R_drew HO.out); replace HW := Ak (below_drew1 HW.out); refine sq 15 (S := fun w' => w'.cell? ⟨g, 0, none⟩ = some (.slice A l.length c) ∧ w'.cell? ⟨g, 1, none⟩ = some (.int .i64 N) ∧ w'.cell? ⟨g, 2, none⟩ = some (.int .i64 at_)) (ds := []) ⟨(blk_cell BG.out 0).trans rfl, (blk_cell BG.out 1).trans rfl, (blk_cell BG.out 2).trans rfl⟩ fun hHeld => ?_; generalize w.drew = wd at HB BG HO HW hHeld ⊢; refine pq 0 9 ?_; refine pq 1 10 ?_; refine pq 2 11 ?_; refine pq 4 13 ?_; refine pq 5 14 ?_; refine pq 6 15 ?_; refine pq 8 17 ?_; refine tq 3 12 ?_ hHeld; refine tq 7 16 ?_ hHeld; refine oq 9 18 fun K hK => ?_; refine gq Tryz.func36 #[.agg #[.slice A l.length c, .int .i64 N], .int .i64 at_, .int .i64 n] ?_
    with_reducible refine (Pv.valiseref01_Get.calls k A c l N at_ n r1 0 _ (Kd.C_below HC.out HB.out) HCc.out HF.out).mono ?_
    rintro e w5 ⟨rfl, hb⟩; refine ⟨_, rfl, ?_⟩; replace HB := Ak (below_then HB.out HB.out.size hb); replace BG := Ak (blk_below BG.out hb); replace HO := Ak (Kd.R_below HO.out hb); replace HW := Ak (below_then HW.out HW.out.size hb); clear hb; refine hK.out _ _ ⟨(blk_cell BG.out 0).trans rfl, (blk_cell BG.out 1).trans rfl, (blk_cell BG.out 2).trans rfl⟩ (fun hHeld => ?_); clear hK K; refine nq 18 ?_; refine pq 10 8 ?_; refine pq 11 19 ?_; refine pq 12 20 ?_; refine pq 13 6 ?_; refine pq 14 7 ?_; refine dq ?_; have hc2 : w5.cell? ⟨g, 2, none⟩ = some (.int .i64 at_) := (blk_cell BG.out 2).trans rfl; have hf2 := blk_frozen BG.out 2; go_wp2; go_ret2; exact .inl ⟨trivial, rfl, StAt.setAt ⟨HB.out, GE.out, BG.out, HO.out⟩ _, (Moved.of_below g v HW.out).set_ 2 _⟩
  have HN := Ak h2; have q2 := eq_false h2; have q2b := bne_iff_ne.2 h2; clear h2; go_enter Tryz.func22, Tryz.ntmps22
  go_upto_region 1 with (fail)
  replace HB := Ak (below_drew1 HB.out); replace BG := Ak (blk_drew BG.out); replace HO := Ak (Kd.R_drew HO.out); replace HW := Ak (below_drew1 HW.out); refine sq 15 (S := fun w' => w'.cell? ⟨g, 0, none⟩ = some (.slice A l.length c) ∧ w'.cell? ⟨g, 1, none⟩ = some (.int .i64 N) ∧ w'.cell? ⟨g, 2, none⟩ = some (.int .i64 at_)) (ds := []) ⟨(blk_cell BG.out 0).trans rfl, (blk_cell BG.out 1).trans rfl, (blk_cell BG.out 2).trans rfl⟩ fun hHeld => ?_; generalize w.drew = wd at HB BG HO HW hHeld ⊢; refine pq 0 9 ?_; refine pq 1 10 ?_; refine pq 2 11 ?_; refine pq 4 13 ?_; refine pq 5 14 ?_; refine pq 6 15 ?_; refine pq 8 17 ?_; refine tq 3 12 ?_ hHeld; refine tq 7 16 ?_ hHeld; refine oq 9 18 fun K hK => ?_; refine gq Tryz.func36 #[.agg #[.slice A l.length c, .int .i64 N], .int .i64 at_, .int .i64 n] ?_
  with_reducible refine (Pv.valiseref01_Get.calls k A c l N at_ n r1 r2 _ (Kd.C_below HC.out HB.out) HCc.out HF.out).mono ?_
  rintro e w5 ⟨rfl, hb⟩; refine ⟨_, rfl, ?_⟩; replace HB := Ak (below_then HB.out HB.out.size hb); replace BG := Ak (blk_below BG.out hb); replace HO := Ak (Kd.R_below HO.out hb); replace HW := Ak (below_then HW.out HW.out.size hb); clear hb; refine hK.out _ _ ⟨(blk_cell BG.out 0).trans rfl, (blk_cell BG.out 1).trans rfl, (blk_cell BG.out 2).trans rfl⟩ (fun hHeld => ?_); clear hK K; refine nq 18 ?_; refine pq 10 8 ?_; refine pq 11 19 ?_; refine pq 12 20 ?_; refine pq 13 6 ?_; refine pq 14 7 ?_; refine dq ?_; go_wp2; go_ret2; exact .inr ⟨HN.out, rfl, HW.out.mono H0.out⟩
theorem ssym_calls (k : Nat) (w0 : World) (A : Option Addr) (c : Nat) (l : List Int) (hC : (Kd.int .u8).C w0 A l.length l) (hc : l.length ≤ c) (w : World) (g : Nat) (N at_ : Int) (v : Value) (out : List Int) (most : Int) (Az : Option Addr) (cz : Nat) (z : List Int) (hz : (Kd.int .i64).C w Az z.length z) (hcz : z.length ≤ cz) (r1 r2 r3 : Int) (H : StAt w0 w g A c l N at_ v out most) (hf : Pv.valiseref04_Read.f k z l N at_ = some (r1, r2, r3)) :
    Calls Tryz.prog 37 #[.pointer (some ⟨g, 0, none⟩), .slice Az z.length cz] w fun e w' => (r3 = 0 ∧ e = .returned (.tuple #[.int .i64 r1, .int .i64 0]) ∧ StAt w0 w' g A c l N r2 v out most ∧ Moved w w' g v v) ∨ (r3 ≠ 0 ∧ e = .returned (.tuple #[.int .i64 0, .int .i64 r3]) ∧ Below w0.heap.size w w') := by
  have HF := Ak hf; have HZ := Ak hz; have HZc := Ak hcz; clear hf hz hcz; have HB := Ak H.below; have GE := Ak H.ge; have H0 := Ak H.below.size; have BG := Ak H.blk; have HO := Ak H.row; have HC := Ak hC; have HCc := Ak hc; have HW := Ak (Below.refl w.heap.size w); clear H hC hc; have huR := Tryz.underlying48; have huB := Tryz.underlying43
  by_cases h2 : r3 = 0
  · subst h2; go_enter Tryz.func37, Tryz.ntmps37
    go_upto_region 1 with (fail)
    replace HB := Ak (below_drew1 HB.out); replace BG := Ak (blk_drew BG.out); replace HO := Ak (Kd.R_drew HO.out); replace HW := Ak (below_drew1 HW.out); refine sq 17 (S := fun w' => w'.cell? ⟨g, 0, none⟩ = some (.slice A l.length c) ∧ w'.cell? ⟨g, 1, none⟩ = some (.int .i64 N) ∧ w'.cell? ⟨g, 2, none⟩ = some (.int .i64 at_)) (ds := []) ⟨(blk_cell BG.out 0).trans rfl, (blk_cell BG.out 1).trans rfl, (blk_cell BG.out 2).trans rfl⟩ fun hHeld => ?_; generalize w.drew = wd at HB BG HO HW hHeld ⊢; refine pq 0 10 ?_; refine pq 1 11 ?_; refine pq 2 12 ?_; refine pq 3 13 ?_; refine pq 5 15 ?_; refine pq 6 16 ?_; refine pq 7 17 ?_; refine tq 4 14 ?_ hHeld; refine tq 8 18 ?_ hHeld; refine oq 9 19 fun K hK => ?_; refine gq Tryz.func54 #[.slice Az z.length cz, .agg #[.slice A l.length c, .int .i64 N], .int .i64 at_] ?_
    with_reducible refine (Pv.valiseref04_Read.calls k Az cz z A c l N at_ r1 r2 0 _ (Kd.C_below HZ.out HW.out) HZc.out (Kd.C_below HC.out HB.out) HCc.out HF.out).mono ?_
    rintro e w5 ⟨rfl, hb⟩; refine ⟨_, rfl, ?_⟩; replace HB := Ak (below_then HB.out HB.out.size hb); replace BG := Ak (blk_below BG.out hb); replace HO := Ak (Kd.R_below HO.out hb); replace HW := Ak (below_then HW.out HW.out.size hb); clear hb; refine hK.out _ _ ⟨(blk_cell BG.out 0).trans rfl, (blk_cell BG.out 1).trans rfl, (blk_cell BG.out 2).trans rfl⟩ (fun hHeld => ?_); clear hK K; refine nq 19 ?_; refine pq 10 9 ?_; refine pq 11 20 ?_; refine pq 12 21 ?_; refine pq 13 22 ?_; refine pq 14 6 ?_; refine pq 15 7 ?_; refine pq 16 8 ?_; refine dq ?_; have hc2 : w5.cell? ⟨g, 2, none⟩ = some (.int .i64 at_) := (blk_cell BG.out 2).trans rfl; have hf2 := blk_frozen BG.out 2; go_wp2; go_ret2; exact .inl ⟨trivial, rfl, StAt.setAt ⟨HB.out, GE.out, BG.out, HO.out⟩ _, (Moved.of_below g v HW.out).set_ 2 _⟩
  have HN := Ak h2; have q2 := eq_false h2; have q2b := bne_iff_ne.2 h2; clear h2; go_enter Tryz.func37, Tryz.ntmps37
  go_upto_region 1 with (fail)
  replace HB := Ak (below_drew1 HB.out); replace BG := Ak (blk_drew BG.out); replace HO := Ak (Kd.R_drew HO.out); replace HW := Ak (below_drew1 HW.out); refine sq 17 (S := fun w' => w'.cell? ⟨g, 0, none⟩ = some (.slice A l.length c) ∧ w'.cell? ⟨g, 1, none⟩ = some (.int .i64 N) ∧ w'.cell? ⟨g, 2, none⟩ = some (.int .i64 at_)) (ds := []) ⟨(blk_cell BG.out 0).trans rfl, (blk_cell BG.out 1).trans rfl, (blk_cell BG.out 2).trans rfl⟩ fun hHeld => ?_; generalize w.drew = wd at HB BG HO HW hHeld ⊢; refine pq 0 10 ?_; refine pq 1 11 ?_; refine pq 2 12 ?_; refine pq 3 13 ?_; refine pq 5 15 ?_; refine pq 6 16 ?_; refine pq 7 17 ?_; refine tq 4 14 ?_ hHeld; refine tq 8 18 ?_ hHeld; refine oq 9 19 fun K hK => ?_; refine gq Tryz.func54 #[.slice Az z.length cz, .agg #[.slice A l.length c, .int .i64 N], .int .i64 at_] ?_
  with_reducible refine (Pv.valiseref04_Read.calls k Az cz z A c l N at_ r1 r2 r3 _ (Kd.C_below HZ.out HW.out) HZc.out (Kd.C_below HC.out HB.out) HCc.out HF.out).mono ?_
  rintro e w5 ⟨rfl, hb⟩; refine ⟨_, rfl, ?_⟩; replace HB := Ak (below_then HB.out HB.out.size hb); replace BG := Ak (blk_below BG.out hb); replace HO := Ak (Kd.R_below HO.out hb); replace HW := Ak (below_then HW.out HW.out.size hb); clear hb; refine hK.out _ _ ⟨(blk_cell BG.out 0).trans rfl, (blk_cell BG.out 1).trans rfl, (blk_cell BG.out 2).trans rfl⟩ (fun hHeld => ?_); clear hK K; refine nq 19 ?_; refine pq 10 9 ?_; refine pq 11 20 ?_; refine pq 12 21 ?_; refine pq 13 22 ?_; refine pq 14 6 ?_; refine pq 15 7 ?_; refine pq 16 8 ?_; refine dq ?_; go_wp2; go_ret2; exact .inr ⟨HN.out, rfl, HW.out.mono H0.out⟩
end
-- YtgflkkjhckcipaaGreatDoorIf43
open Go.Proofs.YtgflkkjhckcipaaGreatDoor.Pv
theorem right_eq {l : List Int} {n : Int} (hb : Byt l) (hl : l.length ≤ 140737488355328) (h0 : -9223372036854775808 ≤ n) (h1 : n ≤ 9223372036854775807) : valiseref01_Right.f l n = some (okR l n) := by
  unfold valiseref01_Right.f
  by_cases hn : n < 0
  · rw [if_pos hn]
    have : okR l n = false := by unfold okR; simp; omega
    rw [this]
  rw [if_neg hn]; obtain ⟨m, rfl⟩ : ∃ m : Nat, n = (m : Int) := ⟨n.toNat, by omega⟩; rw [tdiv8, tmod8]
  have e1 : wrap64 (((m % 8 : Nat) : Int) + 7) = ((m % 8 + 7 : Nat) : Int) := by rw [wrapid (by omega) (by omega)]; omega
  rw [e1, tdiv8]
  have e2 : wrap64 (wrap64 ((m / 8 : Nat) : Int) + wrap64 (((m % 8 + 7) / 8 : Nat) : Int)) = (((m + 7) / 8 : Nat) : Int) := by
    rw [wrapid (x := ((m / 8 : Nat) : Int)) (by omega) (by omega), wrapid (x := (((m % 8 + 7) / 8 : Nat) : Int)) (by omega) (by omega), wrapid (by omega) (by omega)]; omega
  rw [e2]
  by_cases hlen : l.length = (m + 7) / 8
  rotate_left
  · rw [if_neg (by omega)]
    have : okR l (m : Int) = false := by unfold okR; rw [Int.toNat_natCast]; simp only [Bool.and_eq_false_iff, decide_eq_false_iff_not]; exact .inl (.inr hlen)
    rw [this]
  rw [if_pos (by omega)]
  by_cases h8 : m % 8 = 0
  · rw [if_pos (by omega)]
    have : okR l (m : Int) = true := by
      unfold okR; rw [Int.toNat_natCast, List.getD_eq_getElem?_getD, List.getElem?_eq_none (by omega)]
      simp [hlen]
      exact pow_pos2 _
    rw [this]
  rw [if_neg (by omega)]
  have e4 : wrap64 ((l.length : Int) - 1) = ((m / 8 : Nat) : Int) := by rw [wrapid (by omega) (by omega)]; omega
  rw [e4, if_pos (by omega), if_pos (by omega), if_pos (by omega), rd_nat, shr8_eq _ _ (by omega)]
  congr 1
  unfold okR; rw [Int.toNat_natCast, Bool.eq_iff_iff]; simp only [beq_iff_eq, Bool.and_eq_true, decide_eq_true_eq]; rw [last_zero hb hlen h8]; exact ⟨fun h => ⟨⟨by omega, hlen⟩, h⟩, fun h => h.2⟩
theorem refBit_eq {l : List Int} (hb : Byt l) (n : Int) (k : Nat) (hk : k / 8 < l.length) (hk2 : k ≤ 9223372036854775807) : valiseref01_Bit.f l n (k : Int) = some (bat l k) := by
  unfold valiseref01_Bit.f; have hx := byt_get hb (k / 8); rw [tdiv8, tmod8, wrapid (x := ((k / 8 : Nat) : Int)) (by omega) (by omega), if_pos (by omega), if_pos (by omega), if_pos (by omega), rd_nat, shr8_eq _ _ (by omega)]; have hp := pow_pos2 (k % 8); have hq : l.getD (k / 8) 0 / 2 ^ (k % 8) ≤ l.getD (k / 8) 0 := Int.ediv_le_self _ hx.1; have hr : 0 ≤ l.getD (k / 8) 0 / 2 ^ (k % 8) := Int.ediv_nonneg hx.1 (by omega); rw [wrapid (by omega) (by omega), and1 _ hr (by omega)]
  rfl
theorem refGetl_eq {l : List Int} {n : Nat} (h : Rgt l n) (hn : n ≤ 1125899906842624) (a : Nat) (c : Nat) (hc : c ≤ 32) (ha : a + c ≤ n) : ∀ (d k i : Nat), i + d = c → d < k →
    valiseref01_Get.l0 k (a : Int) (c : Int) (getV l a i) (i : Int) l (n : Int) = some (getV l a c, 0) := by
  intro d
  induction d with
  | zero =>
    intro k i hi hk; obtain ⟨k, rfl⟩ : ∃ m, k = m + 1 := ⟨k - 1, by omega⟩; simp only [valiseref01_Get.l0]; rw [if_neg (by omega), show i = c by omega]
  | succ d ih =>
    intro k i hi hk; obtain ⟨k, rfl⟩ : ∃ m, k = m + 1 := ⟨k - 1, by omega⟩; have hl := h.2.1; obtain ⟨g0, g1⟩ := getV_range l a i; obtain ⟨g2, g3⟩ := getV_range l a (i + 1); have h40 := pow_le2 (show i + 1 ≤ 40 by omega); have h41 := pow_le2 (show i ≤ 40 by omega)
    have e40 : (2 : Int) ^ 40 = 1099511627776 := by decide
    rw [e40] at h40 h41
    have hbi : 0 ≤ bat l (a + i) * 2 ^ i ∧ bat l (a + i) * 2 ^ i ≤ 1099511627776 := by rcases bat_01 l (a + i) with e | e <;> rw [e] <;> omega
    simp only [valiseref01_Get.l0]; rw [if_pos (by omega), show wrap64 ((a : Int) + (i : Int)) = ((a + i : Nat) : Int) by rw [wrapid (by omega) (by omega)]; omega, refBit_eq h.1 _ _ (by omega) (by omega)]; simp only [Option.bind_some]; rw [if_pos (by omega), shl_eq _ _ (by omega), wrapid (x := bat l (a + i) * 2 ^ i) (by omega) (by omega), wrapid (x := getV l a i + bat l (a + i) * 2 ^ i) (by omega) (by omega), show wrap64 ((i : Int) + 1) = ((i + 1 : Nat) : Int) by rw [wrapid (by omega) (by omega)]; omega]; exact ih k (i + 1) (by omega) (by omega)
theorem refGet_eq {k : Nat} (hk : 40 ≤ k) {l : List Int} {n a c : Int} (hb : Byt l) (hl : l.length ≤ 140737488355328) (h0 : -9223372036854775808 ≤ n) (h1 : n ≤ 9223372036854775807) : valiseref01_Get.f k l n a c = some (getS l n a c) := by
  obtain ⟨k, rfl⟩ : ∃ m, k = m + 1 := ⟨k - 1, by omega⟩; unfold valiseref01_Get.f getS; rw [right_eq hb hl h0 h1]; simp only [Option.bind_some]
  cases hr : okR l n with
  | false => simp [valiseref01_Get.j0]
  | true => ?_
  simp only [if_true, Bool.true_and]
  by_cases q1 : c < 0
  · simp [valiseref01_Get.j0, q1, show ¬ (0 ≤ c) by omega]
  by_cases q2 : c > 32
  · simp [valiseref01_Get.j0, q1, q2, show ¬ (c ≤ 32) by omega]
  by_cases q3 : a < 0
  · simp [valiseref01_Get.j0, q1, q2, q3, show ¬ (0 ≤ a) by omega]
  by_cases q4 : a > n
  · simp [valiseref01_Get.j0, q1, q2, q3, q4, show ¬ (a ≤ n) by omega]
  rw [if_neg q1, if_neg q2, if_neg q3]
  have e : decide (a > n) = false := by simpa using q4
  have e2 : (decide (0 ≤ c) && decide (c ≤ 32) && decide (0 ≤ a) && decide (a ≤ n)) = true := by simp only [Bool.and_eq_true, decide_eq_true_eq]; omega
  rw [e, e2]; simp only [valiseref01_Get.j0, Bool.false_eq_true, if_false, if_true]; rw [wrapid (by omega) (by omega)]
  by_cases q5 : n - a < c
  · rw [if_pos q5, if_pos q5]
  rw [if_neg q5, if_neg q5]; obtain ⟨r1, r2⟩ := (okR_iff hb).1 hr; obtain ⟨m, rfl⟩ : ∃ m : Nat, n = (m : Int) := ⟨n.toNat, by omega⟩; obtain ⟨d, rfl⟩ : ∃ m : Nat, c = (m : Int) := ⟨c.toNat, by omega⟩; obtain ⟨b, rfl⟩ : ∃ m : Nat, a = (m : Int) := ⟨a.toNat, by omega⟩; rw [Int.toNat_natCast] at r2; have := r2.2.1; simp only [Int.toNat_natCast]; exact refGetl_eq r2 (by omega) b d (by omega) (by omega) d k 0 (by omega) (by omega)
def ToldG (w0 w : World) (g : Nat) (A : Option Addr) (c : Nat) (l : List Int) (v : Value) (out : List Int) (most : Int) (e : Ending) (w' : World) : Except Int (Int × Nat) → Prop
  | .ok (x, p') => e = .returned (.tuple #[.int .i64 x, .int .i64 0]) ∧ p' ≤ 8 * l.length ∧ StAt w0 w' g A c l (NN l) ((p' : Nat) : Int) v out most ∧ Moved w w' g v v
  | .error er => e = .returned (.tuple #[.int .i64 0, .int .i64 er]) ∧ Below w0.heap.size w w' ∧ er ≠ 0
theorem sget_told {w0 : World} {A : Option Addr} {c : Nat} {l : List Int} (hr : RowOk w0 A c l) (w : World) (g p n : Nat) (v : Value) (out : List Int) (most : Int) (H : StAt w0 w g A c l (NN l) (p : Int) v out most) (hp : p ≤ 8 * l.length) (hn : n ≤ 32) :
    Calls Tryz.prog 22 #[.pointer (some ⟨g, 0, none⟩), .int .i64 (n : Int)] w fun e w' => ToldG w0 w g A c l v out most e w' (bitsM l p n) := by
  have hlen := hr.len; have hf := refGet_eq (k := 40) (Nat.le_refl _) (l := l) (n := NN l) (a := (p : Int)) (c := (n : Int)) hr.byt (by omega) (by unfold NN; omega) (by unfold NN; omega); rw [getS_at hr.byt hp hn] at hf; unfold bitsM
  by_cases h : p + n ≤ 8 * l.length
  · rw [if_pos h] at hf ⊢; refine (sget_calls 40 w0 A c l hr.C hr.cap w g _ _ v out most _ _ _ H hf).mono ?_; rintro e w' (⟨_, he, hat, hm⟩ | ⟨hne, _⟩)
    · have e1 : wrap64 ((p : Int) + (n : Int)) = ((p + n : Nat) : Int) := by rw [wrap64_id (by omega) (by omega)]; omega
      rw [e1] at hat; exact ⟨he, h, hat, hm⟩
    exact absurd rfl hne
  rw [if_neg h] at hf ⊢; refine (sget_calls 40 w0 A c l hr.C hr.cap w g _ _ v out most _ _ _ H hf).mono ?_; rintro e w' (⟨h0, _⟩ | ⟨_, he, hb⟩)
  · exact absurd h0 (by decide)
  exact ⟨he, hb, by decide⟩
-- YtgflkkjhckcipaaGreatDoorIf44
def tk1 (x : Int) : Nat := if 0 < x then 2 ^ (15 - x.toNat) else 0
def takeS (l : List Int) : Nat := (l.map tk1).sum
theorem tk1_le (x : Int) : tk1 x ≤ 32768 := by
  unfold tk1
  split
  · exact Nat.pow_le_pow_right (n := 2) (by omega) (show 15 - x.toNat ≤ 15 by omega)
  omega
theorem drop_getD (l : List Int) {i : Nat} (hi : i < l.length) : l.drop i = rd l (i : Int) :: l.drop (i + 1) := by
  rw [List.drop_eq_getElem_cons hi, rdN, List.getElem?_eq_getElem hi]; rfl
theorem shl1 (m : Nat) (hm : m ≤ 15) : shl .i64 1 (m : Int) = ((2 ^ m : Nat) : Int) := by
  have : m = 0 ∨ m = 1 ∨ m = 2 ∨ m = 3 ∨ m = 4 ∨ m = 5 ∨ m = 6 ∨ m = 7 ∨ m = 8 ∨ m = 9 ∨ m = 10 ∨ m = 11 ∨ m = 12 ∨ m = 13 ∨ m = 14 ∨ m = 15 := by omega
  rcases this with rfl | rfl | rfl | rfl | rfl | rfl | rfl | rfl | rfl | rfl | rfl | rfl | rfl | rfl | rfl | rfl <;> decide +kernel
theorem takes_l0 (l : List Int) (h : OKL l) : ∀ (d k i : Nat) (n : Nat), l.length - i ≤ d → d < k → i ≤ l.length → n ≤ i * 32768 → valiseref04_Takes.l0 k l (n : Int) (i : Int) = some ((n + takeS (l.drop i) : Nat) : Int)
  | d, 0, i, n, _, hk, _, _ => by omega
  | d, k + 1, i, n, hd, hk, hi, hn => by
    rw [valiseref04_Takes.l0]
    by_cases hlt : i < l.length
    · rw [if_pos (by omega), if_pos (by omega)]; obtain ⟨d, rfl⟩ : ∃ d', d = d' + 1 := ⟨d - 1, by omega⟩; have hm := h.2.2 _ (mem_of_getD hlt); rw [← rdN] at hm; have hl := h.2.1; rw [drop_getD l hlt]
      have e2 : takeS (rd l (i : Int) :: l.drop (i + 1)) = tk1 (rd l (i : Int)) + takeS (l.drop (i + 1)) := by unfold takeS; rw [List.map_cons, List.sum_cons]
      rw [e2]; obtain ⟨x, hx⟩ : ∃ x, rd l (i : Int) = x := ⟨_, rfl⟩; rw [hx] at hm ⊢; rw [wrap64_id (x := (i : Int) + 1) (by omega) (by omega), show (i : Int) + 1 = ((i + 1 : Nat) : Int) by omega]; have ht := tk1_le x
      by_cases h0 : x > 0
      · rw [if_pos h0, wrap64_id (x := 15 - x) (by omega) (by omega), if_pos (by omega)]
        have ex : 15 - x = ((15 - x.toNat : Nat) : Int) := by omega
        have et : tk1 x = 2 ^ (15 - x.toNat) := by unfold tk1; rw [if_pos h0]
        rw [ex, shl1 _ (by omega), ← et, wrap64_id (by omega) (by omega), show (n : Int) + (tk1 x : Int) = ((n + tk1 x : Nat) : Int) by omega, takes_l0 l h d k (i + 1) (n + tk1 x) (by omega) (by omega) (by omega) (by omega)]
        congr 2
        omega
      · have hn2 : n ≤ (i + 1) * 32768 := Nat.le_trans hn (Nat.mul_le_mul_right _ (Nat.le_succ i)); rw [if_neg h0, takes_l0 l h d k (i + 1) n (by omega) (by omega) (by omega) hn2]
        have et : tk1 x = 0 := by unfold tk1; rw [if_neg h0]
        rw [et, Nat.zero_add]
    · rw [if_neg (by omega), List.drop_of_length_le (by omega)]
      simp [takeS]
theorem takes_eq (l : List Int) (h : OKL l) {k : Nat} (hk : l.length < k) : valiseref04_Takes.f k l = some ((takeS l : Nat) : Int) := by
  unfold valiseref04_Takes.f; have := takes_l0 l h l.length k 0 0 (by omega) hk (by omega) (by omega); rw [List.drop_zero, Nat.zero_add] at this; exact this
theorem lengths_l0 (l : List Int) (hl : l.length ≤ 288) : ∀ (d k i : Nat), l.length - i ≤ d → d < k → i ≤ l.length → valiseref04_Lengths.l0 k l (i : Int) = some (decide (∀ x ∈ l.drop i, 0 ≤ x ∧ x ≤ 15))
  | d, 0, i, _, hk, _ => by omega
  | d, k + 1, i, hd, hk, hi => by
    rw [valiseref04_Lengths.l0]
    by_cases hlt : i < l.length
    · rw [if_pos (by omega), if_pos (by omega), drop_getD l hlt]; obtain ⟨d, rfl⟩ : ∃ d', d = d' + 1 := ⟨d - 1, by omega⟩; rw [wrap64_id (x := (i : Int) + 1) (by omega) (by omega), show (i : Int) + 1 = ((i + 1 : Nat) : Int) by omega, lengths_l0 l hl d k (i + 1) (by omega) (by omega) (by omega)]
      by_cases h0 : rd l (i : Int) < 0
      · rw [if_pos h0]
        congr 1
        exact (decide_eq_false (fun h => by have := h _ (List.mem_cons_self ..); omega)).symm
      · rw [if_neg h0]
        by_cases h1 : rd l (i : Int) > 15
        · rw [if_pos h1]
          congr 1
          exact (decide_eq_false (fun h => by have := h _ (List.mem_cons_self ..); omega)).symm
        · rw [if_neg h1]
          congr 1
          rw [decide_eq_decide]; exact ⟨fun h x hx => (List.mem_cons.1 hx).elim (fun e => by subst e; omega) (h x), fun h x hx => h x (List.mem_cons_of_mem _ hx)⟩
    · rw [if_neg (by omega), List.drop_of_length_le (by omega)]
      simp
instance (l : List Int) : Decidable (OKL l) := by unfold OKL; infer_instance
theorem lengths_eq (l : List Int) {k : Nat} (hk : l.length + 2 < k) : valiseref04_Lengths.f k l = some (decide (OKL l)) := by
  obtain ⟨k, rfl⟩ : ∃ k', k = k' + 1 := ⟨k - 1, by omega⟩; unfold valiseref04_Lengths.f
  by_cases h0 : (l.length : Int) = 0
  · rw [if_pos h0, valiseref04_Lengths.j0, if_pos rfl]
    congr 1
    exact (decide_eq_false (fun h => by have := h.1; omega)).symm
  rw [if_neg h0, valiseref04_Lengths.j0]
  by_cases h1 : (l.length : Int) > 288
  · rw [if_pos (decide_eq_true h1)]
    congr 1
    exact (decide_eq_false (fun h => by have := h.2.1; omega)).symm
  rw [if_neg (by rw [decide_eq_true_eq]; exact h1)]; have := lengths_l0 l (by omega) l.length k 0 (by omega) (by omega) (by omega); rw [List.drop_zero] at this; rw [show (0 : Int) = ((0 : Nat) : Int) from rfl, this]
  congr 1
  rw [decide_eq_decide]; exact ⟨fun h => ⟨by omega, by omega, h⟩, fun h => h.2.2⟩
theorem takeT_nil : ∀ d, takeT [] d = 0
  | 0 => rfl
  | d + 1 => by unfold takeT; rw [takeT_nil d]; simp
theorem takeT_cons (x : Int) (l : List Int) (hx : 0 ≤ x ∧ x ≤ 15) : ∀ d, d ≤ 15 → takeT (x :: l) d = takeT l d + if 15 - d < x.toNat then tk1 x else 0
  | 0, _ => by
    unfold takeT; rw [if_neg (by omega)]
  | d + 1, hd => by
    unfold takeT; rw [takeT_cons x l hx d (by omega), List.count_cons, Nat.add_mul]; unfold tk1
    by_cases he : x = ((15 - d : Nat) : Int)
    · rw [if_pos (beq_iff_eq.mpr he), if_neg (show ¬ 15 - d < x.toNat by omega), if_pos (show 15 - (d + 1) < x.toNat by omega), if_pos (show 0 < x by omega), show 15 - x.toNat = d by omega]
      omega
    · rw [if_neg (c := (x == ((15 - d : Nat) : Int)) = true) (by rw [beq_iff_eq]; exact he)]
      by_cases hl : 15 - d < x.toNat
      · rw [if_pos hl, if_pos (show 15 - (d + 1) < x.toNat by omega)]
        omega
      · rw [if_neg hl, if_neg (show ¬ 15 - (d + 1) < x.toNat by omega)]
        omega
theorem takeT_eq : ∀ (l : List Int), (∀ x ∈ l, 0 ≤ x ∧ x ≤ 15) → takeT l 15 = takeS l
  | [], _ => by rw [takeT_nil]; rfl
  | x :: l, h => by
    have hx := h x (List.mem_cons_self ..); rw [takeT_cons x l hx 15 (by omega), takeT_eq l (fun y hy => h y (List.mem_cons_of_mem _ hy))]; unfold takeS; rw [List.map_cons, List.sum_cons]
    by_cases h0 : 0 < x.toNat
    · rw [if_pos (by omega)]
      omega
    · rw [if_neg (by omega)]
      have : tk1 x = 0 := by unfold tk1; rw [if_neg (by omega)]
      omega
theorem check4_eq (l : List Int) {k : Nat} (hk : l.length + 2 < k) : valiseref04_Check.f k l = some (Hu.checkS l) := by
  unfold valiseref04_Check.f; rw [lengths_eq l hk, Option.bind_some]
  by_cases h : OKL l
  · rw [if_pos (decide_eq_true h), takes_eq l h (by omega), Option.bind_some, checkS_eq l h, takeT_eq l h.2.2]
    by_cases h1 : takeS l > 32768
    · rw [if_pos h1, if_pos (by omega)]
    rw [if_neg h1, if_neg (by omega)]
    by_cases h2 : takeS l < 32768
    · rw [if_pos h2, if_pos (by omega)]
    rw [if_neg h2, if_neg (by omega)]
  rw [if_neg (by rw [decide_eq_true_eq]; exact h), checkS_bad l h]
def codesV (l : List Int) : List Int := (List.range l.length).map fun i => ((codeN l i : Nat) : Int)
theorem codesV_len (l : List Int) : (codesV l).length = l.length := by unfold codesV; rw [List.length_map, List.length_range]
theorem codesV_rd (l : List Int) {i : Nat} (hi : i < l.length) : rd (codesV l) (i : Int) = ((codeN l i : Nat) : Int) := by
  rw [rdN]; unfold codesV; rw [List.getElem?_map, List.getElem?_range hi]; rfl
theorem ext_rd {a b : List Int} (hl : a.length = b.length) (h : ∀ i : Nat, i < a.length → rd a (i : Int) = rd b (i : Int)) : a = b := by
  apply List.ext_getElem hl
  intro i h1 h2; have := h i h1; rw [rdN, rdN, List.getElem?_eq_getElem h1, List.getElem?_eq_getElem h2] at this; exact this
def Hu.codesS (l : List Int) : List Int × Int := if Hu.checkS l = 0 ∨ Hu.checkS l = 12 then (codesV l, 0) else ([], Hu.checkS l)
theorem codesS_eq (l : List Int) : Hu.codesS l = if Hu.checkS l = 0 ∨ Hu.checkS l = 12 then (codesV l, 0) else ([], Hu.checkS l) := rfl
def partV (l : List Int) (x i : Nat) : List Int := (List.range l.length).map fun j => if (l[j]?.getD 0).toNat < x ∨ ((l[j]?.getD 0).toNat = x ∧ j < i) then ((codeN l j : Nat) : Int) else 0
theorem partV_len (l : List Int) (x i : Nat) : (partV l x i).length = l.length := by unfold partV; rw [List.length_map, List.length_range]
theorem partV_rd (l : List Int) (x i : Nat) {j : Nat} (hj : j < l.length) : rd (partV l x i) (j : Int) = if (l[j]?.getD 0).toNat < x ∨ ((l[j]?.getD 0).toNat = x ∧ j < i) then ((codeN l j : Nat) : Int) else 0 := by
  rw [rdN]; unfold partV; rw [List.getElem?_map, List.getElem?_range hj]; rfl
theorem ref_l2 (l : List Int) (h : OKL l) (r : List Int × Int) (x i : Nat) (hx : x ≤ 15) (hi : i < l.length) (out : List Int) (ho : out.length = l.length) :
    ∀ (d was : Nat) (code : Nat), was ≤ x → x - was = d → code * 2 ^ d ≤ 40000000 → Ev (fun k => valiseref04_Codes.l1 k l (out.set i ((code * 2 ^ d : Nat) : Int)) ((code * 2 ^ d : Nat) : Int) (x : Int) (x : Int) ((i + 1 : Nat) : Int)) r →
    Ev (fun k => valiseref04_Codes.l2 k l out (code : Int) (was : Int) (x : Int) (i : Int)) r
  | 0, was, code, hw, hd, hc, H => by
    obtain rfl : was = x := by omega
    refine Ev.succ (fun k => ?_) H; rw [valiseref04_Codes.l2, if_neg (by omega), if_pos (by omega), if_pos (by rw [ho]; omega), Int.toNat_natCast]; have := h.2.1; rw [wrap64_id (by omega) (by omega), Nat.pow_zero, Nat.mul_one]
    rfl
  | d + 1, was, code, hw, hd, hc, H => by
    have e : code * 2 ^ (d + 1) = 2 * code * 2 ^ d := by rw [Nat.pow_succ, Nat.mul_comm 2 code, Nat.mul_assoc, Nat.mul_comm (2 ^ d) 2]
    rw [e] at hc H; have hp : 1 ≤ 2 ^ d := Nat.one_le_two_pow; have hc2 : 2 * code ≤ 40000000 := Nat.le_trans (by have := Nat.mul_le_mul_left (2 * code) hp; omega) hc; refine Ev.succ (fun k => ?_) (ref_l2 l h r x i hx hi out ho d (was + 1) (2 * code) (by omega) (by omega) hc H); rw [valiseref04_Codes.l2, if_pos (by omega), wrap64_id (by omega) (by omega), wrap64_id (by omega) (by omega)]
    rfl
theorem partV_next (l : List Int) (h : OKL l) (x : Nat) : partV l (x + 1) 0 = partV l x l.length := by
  refine ext_rd (by rw [partV_len, partV_len]) (fun j hj => ?_); rw [partV_len] at hj; rw [partV_rd l _ _ hj, partV_rd l _ _ hj]
  by_cases hh : (l[j]?.getD 0).toNat < x ∨ ((l[j]?.getD 0).toNat = x ∧ j < l.length)
  · rw [if_pos hh, if_pos (by omega)]
  rw [if_neg hh, if_neg (by omega)]
theorem ref_l1 (l : List Int) (h : OKL l) (r : List Int × Int) (x : Nat) (h1 : 1 ≤ x) (hx : x ≤ 15)
    (H : ∀ (code : Int) (was : Nat), -1 ≤ code → was ≤ x → (code + 1) * 2 ^ (x + 1 - was) = (firstC l (x + 1) : Int) → Ev (fun k => valiseref04_Codes.l0 k l (partV l (x + 1) 0) code (was : Int) ((x + 1 : Nat) : Int)) r) :
    ∀ (d i : Nat) (code : Int) (was : Nat), l.length - i = d → i ≤ l.length → -1 ≤ code → was ≤ x → (code + 1) * 2 ^ (x - was) = ((firstC l x + (l.take i).count (x : Int) : Nat) : Int) →
      Ev (fun k => valiseref04_Codes.l1 k l (partV l x i) code (was : Int) (x : Int) (i : Int)) r
  | 0, i, code, was, hd, hi, hc, hw, e => by
    obtain rfl : i = l.length := by omega
    rw [List.take_length] at e
    have e2 : (code + 1) * 2 ^ (x + 1 - was) = (firstC l (x + 1) : Int) := by
      rw [show x + 1 - was = x - was + 1 by omega, Int.pow_succ, ← Int.mul_assoc, e, show firstC l (x + 1) = (firstC l x + if x = 0 then 0 else l.count (x : Int)) * 2 from rfl, if_neg (by omega)]
      omega
    refine Ev.succ (fun k => ?_) (H code was hc hw e2); rw [valiseref04_Codes.l1, if_neg (by omega), wrap64_id (by omega) (by omega), partV_next l h]
    rfl
  | d + 1, i, code, was, hd, hi, hc, hw, e => by
    have hlt : i < l.length := by omega
    have hle := h.2.1; have hrd := rdN l i; obtain ⟨v, hv⟩ : ∃ v, l[i]?.getD 0 = v := ⟨_, rfl⟩; have hm := h.2.2 _ (mem_of_getD hlt); have htk := take_succ_getD l hlt; rw [hv] at hrd hm htk; have hb := firstC_lt l hle (show x ≤ 16 by omega); have hcl := count_le l i (x : Int)
    by_cases hvx : v = (x : Int)
    · obtain ⟨cn, hcn⟩ : ∃ cn : Nat, code + 1 = (cn : Int) := ⟨(code + 1).toNat, by omega⟩
      have e3 : cn * 2 ^ (x - was) = firstC l x + (l.take i).count (x : Int) := by
        rw [hcn] at e
        exact_mod_cast e
      have hcN : codeN l i = firstC l x + (l.take i).count (x : Int) := by
        unfold codeN; rw [hv, if_neg (by omega), hvx, Int.toNat_natCast]
      have hset : (partV l x i).set i ((cn * 2 ^ (x - was) : Nat) : Int) = partV l x (i + 1) := by
        refine ext_rd (by rw [List.length_set, partV_len, partV_len]) (fun j hj => ?_); rw [List.length_set, partV_len] at hj; rw [rd_set _ _ _ _ (by rw [partV_len]; omega), partV_rd l _ _ hj, partV_rd l _ _ hj]
        by_cases hij : i = j
        · subst hij; rw [if_pos rfl, hv, if_pos (by omega), hcN, e3]
        · rw [if_neg hij]
          by_cases hh : (l[j]?.getD 0).toNat < x ∨ ((l[j]?.getD 0).toNat = x ∧ j < i)
          · rw [if_pos hh, if_pos (by omega)]
          · rw [if_neg hh, if_neg (by omega)]
      have hbc : cn * 2 ^ (x - was) ≤ 40000000 := by omega
      have hp : 1 ≤ 2 ^ (x - was) := Nat.one_le_two_pow; have hcnb : cn ≤ 40000000 := Nat.le_trans (by have := Nat.mul_le_mul_left cn hp; omega) hbc
      have nx := ref_l1 l h r x h1 hx H d (i + 1) ((cn * 2 ^ (x - was) : Nat) : Int) x (by omega) (by omega) (by omega) (Nat.le_refl _) (by
        rw [Nat.sub_self, Int.pow_zero, Int.mul_one, htk, List.count_append, hvx, List.count_singleton, if_pos (beq_iff_eq.mpr rfl), e3]
        omega)
      refine Ev.succ (fun k => ?_) (ref_l2 l h r x i hx hlt (partV l x i) (partV_len l x i) (x - was) was cn hw rfl hbc (by rw [hset]; exact nx)); rw [valiseref04_Codes.l1, if_pos (by omega), if_pos (by omega), hrd, if_pos hvx, hcn, wrap64_id (by omega) (by omega)]
    · have hpv : partV l x i = partV l x (i + 1) := by
        refine ext_rd (by rw [partV_len, partV_len]) (fun j hj => ?_); rw [partV_len] at hj; rw [partV_rd l _ _ hj, partV_rd l _ _ hj]
        by_cases hij : i = j
        · subst hij; rw [hv]
          by_cases hh : v.toNat < x ∨ (v.toNat = x ∧ i < i)
          · rw [if_pos hh, if_pos (by omega)]
          · rw [if_neg hh, if_neg (by omega)]
        · by_cases hh : (l[j]?.getD 0).toNat < x ∨ ((l[j]?.getD 0).toNat = x ∧ j < i)
          · rw [if_pos hh, if_pos (by omega)]
          · rw [if_neg hh, if_neg (by omega)]
      refine Ev.succ (fun k => ?_) (ref_l1 l h r x h1 hx H d (i + 1) code was (by omega) (by omega) hc hw (by
        rw [htk, List.count_append, List.count_singleton, if_neg (c := (v == (x : Int)) = true) (by rw [beq_iff_eq]; exact hvx), Nat.add_zero]
        exact e))
      rw [valiseref04_Codes.l1, if_pos (by omega), if_pos (by omega), hrd, if_neg hvx, wrap64_id (by omega) (by omega), ← hpv]
      rfl
theorem ref_l0 (l : List Int) (h : OKL l) : ∀ (d x : Nat) (code : Int) (was : Nat), 16 - x = d → 1 ≤ x → x ≤ 16 → -1 ≤ code → was + 1 ≤ x → (code + 1) * 2 ^ (x - was) = (firstC l x : Int) →
    Ev (fun k => valiseref04_Codes.l0 k l (partV l x 0) code (was : Int) (x : Int)) (codesV l, 0)
  | 0, x, code, was, hd, h1, hx, hc, hw, e => by
    obtain rfl : x = 16 := by omega
    have : partV l 16 0 = codesV l := by
      refine ext_rd (by rw [partV_len, codesV_len]) (fun j hj => ?_); rw [partV_len] at hj; have hm := h.2.2 _ (mem_of_getD hj); rw [partV_rd l _ _ hj, codesV_rd l hj, if_pos (by omega)]
    rw [this]; exact Ev.done (fun k => by rw [valiseref04_Codes.l0, if_neg (by omega)])
  | d + 1, x, code, was, hd, h1, hx, hc, hw, e => by
    refine Ev.succ (fun k => ?_) (ref_l1 l h _ x h1 (by omega) (fun code was hc hw e => ref_l0 l h d (x + 1) code was (by omega) (by omega) (by omega) hc (by omega) e) l.length 0 code was (by omega) (by omega) hc (by omega) (by rw [List.take_zero, List.count_nil, Nat.add_zero]; exact e)); rw [valiseref04_Codes.l0, if_pos (by omega)]
    rfl
theorem partV_zero (l : List Int) (h : OKL l) : partV l 1 0 = List.replicate l.length 0 := by
  refine ext_rd (by rw [partV_len, List.length_replicate]) (fun j hj => ?_); rw [partV_len] at hj; have hm := h.2.2 _ (mem_of_getD hj); rw [partV_rd l _ _ hj, rdN, List.getElem?_replicate, if_pos hj]
  by_cases hh : (l[j]?.getD 0).toNat < 1 ∨ ((l[j]?.getD 0).toNat = 1 ∧ j < 0)
  · rw [if_pos hh]; unfold codeN; rw [if_pos (by omega)]
    rfl
  rw [if_neg hh]; rfl
theorem refCodes_eq (l : List Int) : Ev (fun k => valiseref04_Codes.f k l) (Hu.codesS l) := by
  rw [codesS_eq]
  by_cases hc : Hu.checkS l = 0 ∨ Hu.checkS l = 12
  rotate_left
  · rw [if_neg hc]; refine ⟨l.length + 10, fun k' hk' => ?_⟩
    show valiseref04_Codes.f k' l = _
    unfold valiseref04_Codes.f; obtain ⟨m, rfl⟩ : ∃ m, k' = m + 1 := ⟨k' - 1, by omega⟩; rw [check4_eq l (by omega), Option.bind_some, if_neg (by omega), show (Hu.checkS l != 12) = true from bne_iff_ne.mpr (by omega), valiseref04_Codes.j0, if_pos rfl]
  rw [if_pos hc]; have h := okl_of_check hc; obtain ⟨k, hk⟩ := ref_l0 l h 15 1 (-1) 0 rfl (by omega) (by omega) (by omega) (by omega) rfl; rw [partV_zero l h] at hk; refine ⟨k + l.length + 10, fun k' hk' => ?_⟩
  show valiseref04_Codes.f k' l = _
  unfold valiseref04_Codes.f; obtain ⟨m, rfl⟩ : ∃ m, k' = m + 1 := ⟨k' - 1, by omega⟩; have hle := h.2.1
  have hj : valiseref04_Codes.j0 (m + 1) l (Hu.checkS l) false = some (codesV l, 0) := by
    rw [valiseref04_Codes.j0, if_neg (by decide), if_pos (by omega), Int.toNat_natCast, if_pos (by omega)]; exact hk m (by omega)
  rw [check4_eq l (by omega), Option.bind_some]
  rcases hc with hc | hc
  · rw [if_pos hc, hj]
  rw [if_neg (by omega), show (Hu.checkS l != 12) = false from bne_eq_false_iff_eq.mpr hc, hj]
-- YtgflkkjhckcipaaGreatDoorIf45
def Bgn (l : List Int) (v L j : Nat) : Prop := ∃ a : Nat, 1 ≤ a ∧ l[j]?.getD 0 = (a : Int) ∧ L ≤ a ∧ codeN l j / 2 ^ (a - L) = v
theorem begins_eq (l : List Int) {v L j a : Nat} (ha : a ≤ 15) (hL : L ≤ 15) (h1 : 1 ≤ a) (e : l[j]?.getD 0 = (a : Int)) : ∃ t : Bool, valiseref04_begins.f ((codeN l j : Nat) : Int) (a : Int) (v : Int) (L : Int) = some t ∧ (t = true ↔ Bgn l v L j) := by
  unfold valiseref04_begins.f
  by_cases h : L ≤ a
  · rw [if_pos (by omega), w64_sub a L (by omega) (by omega), if_pos (by omega), shr_eq _ _ (by omega)]; refine ⟨_, rfl, ?_⟩
    have e2 : ((codeN l j : Nat) : Int) / 2 ^ (a - L) = ((codeN l j / 2 ^ (a - L) : Nat) : Int) := by
      rw [Int.natCast_ediv]; simp
    rw [e2, beq_iff_eq]
    constructor
    · intro h3; exact ⟨a, h1, e, h, by omega⟩
    rintro ⟨a', _, e', _, h3⟩
    obtain rfl : a' = a := by omega
    omega
  rw [if_neg (by omega)]; refine ⟨false, rfl, ?_⟩
  constructor
  · intro h3; cases h3
  rintro ⟨a', _, e', h3, _⟩
  omega
theorem ref_read1 (l : List Int) (hl : OKL l) (b : List Int) (n p : Int) (v L : Nat) (h1 : 1 ≤ L) (hL : L ≤ 15)
    (hno : ∀ j, j < l.length → l[j]?.getD 0 = (L : Int) → codeN l j ≠ v) : ∀ (d i : Nat) (s : Bool), i + d = l.length →
    (∀ r : Int × Int × Int, Ev (fun k => valiseref04_Read.l0 k l p (codesV l) (v : Int) ((L + 1 : Nat) : Int) b n) r → (s = true ∨ ∃ j, i ≤ j ∧ j < l.length ∧ Bgn l v L j) → Ev (fun k => valiseref04_Read.l1 k l p (codesV l) (v : Int) (L : Int) s (i : Int) b n) r) ∧
    (¬ (s = true ∨ ∃ j, i ≤ j ∧ j < l.length ∧ Bgn l v L j) → Ev (fun k => valiseref04_Read.l1 k l p (codesV l) (v : Int) (L : Int) s (i : Int) b n) (0, 0, 13))
  | 0, i, s, hd => by
    constructor
    · intro r hr h
      have hs : s = true := by
        rcases h with h | ⟨j, h2, h3, _⟩
        · exact h
        · omega
      refine Ev.succ (fun k => ?_) hr
      show valiseref04_Read.l1 (k + 1) l p (codesV l) (v : Int) (L : Int) s (i : Int) b n = _
      rw [valiseref04_Read.l1, if_neg (by omega), if_pos hs, w64_succ L (by omega)]
    · intro h; refine Ev.done (fun k => ?_)
      show valiseref04_Read.l1 (k + 1) l p (codesV l) (v : Int) (L : Int) s (i : Int) b n = _
      rw [valiseref04_Read.l1, if_neg (by omega), if_neg (fun hs => h (.inl hs))]
  | d + 1, i, s, hd => by
    have hi : i < l.length := by omega
    have hlen := hl.2.1; have hm := hl.2.2 _ (mem_of_getD hi); obtain ⟨a, ha⟩ : ∃ a : Nat, l[i]?.getD 0 = (a : Int) := ⟨(l[i]?.getD 0).toNat, by omega⟩
    have hrd : rd l (i : Int) = (a : Int) := by rw [rdN]; exact ha
    have hcr := codesV_rd l hi
    have hi64 : i ≤ 4611686018427387904 := by omega
    -- the state behind this symbol
    obtain ⟨s', hs', hstep⟩ : ∃ s' : Bool, (s' = true ↔ s = true ∨ Bgn l v L i) ∧ ∀ k, valiseref04_Read.l1 (k + 1) l p (codesV l) (v : Int) (L : Int) s (i : Int) b n = valiseref04_Read.l1 k l p (codesV l) (v : Int) (L : Int) s' ((i + 1 : Nat) : Int) b n := by
      by_cases ha0 : a = 0
      · subst ha0
        have hnb : ¬ Bgn l v L i := by rintro ⟨a', h2, e', _⟩; omega
        refine ⟨s, by simp [hnb], fun k => ?_⟩; rw [valiseref04_Read.l1, if_pos (by omega), if_pos (by omega), hrd, if_neg (show ¬ ((0 : Nat) : Int) = (L : Int) by omega), w64_succ i hi64]
        cases s with
        | true => rw [if_pos rfl]
        | false => rw [if_neg (by decide), if_neg (by decide)]
      · obtain ⟨t, ht, hbg⟩ := begins_eq l (v := v) (L := L) (j := i) (a := a) (by omega) hL (by omega) ha; refine ⟨s || t, by rw [Bool.or_eq_true, hbg], fun k => ?_⟩; rw [valiseref04_Read.l1, if_pos (by omega), if_pos (by omega), hrd, hcr, codesV_len, w64_succ i hi64, ht]; simp only [Option.bind_some]
        by_cases haL : a = L
        · have hne := hno i hi (by rw [ha, haL]); rw [if_pos (show (a : Int) = (L : Int) by omega), if_pos (show (i : Int) < (l.length : Int) by omega), if_neg (show ¬ ((codeN l i : Nat) : Int) = (v : Int) by omega)]
          cases s with
          | true => rw [if_pos rfl]; rfl
          | false => rw [if_neg (by decide), if_pos (show (a : Int) > 0 by omega)]; rfl
        · rw [if_neg (show ¬ (a : Int) = (L : Int) by omega)]
          cases s with
          | true => rw [if_pos rfl]; rfl
          | false => rw [if_neg (by decide), if_pos (show (a : Int) > 0 by omega), if_pos (show (i : Int) < (l.length : Int) by omega)]; rfl
    obtain ⟨ih1, ih2⟩ := ref_read1 l hl b n p v L h1 hL hno d (i + 1) s' (by omega)
    have heq : (s' = true ∨ ∃ j, i + 1 ≤ j ∧ j < l.length ∧ Bgn l v L j) ↔ (s = true ∨ ∃ j, i ≤ j ∧ j < l.length ∧ Bgn l v L j) := by
      rw [hs']
      constructor
      · rintro ((h | h) | ⟨j, h2, h3, h4⟩)
        · exact .inl h
        · exact .inr ⟨i, Nat.le_refl _, hi, h⟩
        · exact .inr ⟨j, by omega, h3, h4⟩
      · rintro (h | ⟨j, h2, h3, h4⟩)
        · exact .inl (.inl h)
        · rcases Nat.eq_or_lt_of_le h2 with h5 | h5
          · subst h5; exact .inl (.inr h4)
          · exact .inr ⟨j, h5, h3, h4⟩
    rw [heq] at ih1 ih2; exact ⟨fun r hr h => Ev.succ hstep (ih1 r hr h), fun h => Ev.succ hstep (ih2 h)⟩
theorem ref_read1_hit (l : List Int) (hl : OKL l) (b : List Int) (n p : Int) (v L j : Nat) (h1 : 1 ≤ L) (hL : L ≤ 15) (hj : j < l.length) (ej : l[j]?.getD 0 = (L : Int)) (ec : codeN l j = v) :
    ∀ (d i : Nat) (s : Bool), i + d = j → Ev (fun k => valiseref04_Read.l1 k l p (codesV l) (v : Int) (L : Int) s (i : Int) b n) ((j : Int), p, 0)
  | 0, i, s, hd => by
    obtain rfl : i = j := by omega
    have hrd : rd l (i : Int) = (L : Int) := by rw [rdN]; exact ej
    refine Ev.done (fun k => ?_)
    show valiseref04_Read.l1 (k + 1) l p (codesV l) (v : Int) (L : Int) s (i : Int) b n = _
    rw [valiseref04_Read.l1, if_pos (by omega), if_pos (by omega), hrd, if_pos rfl, codesV_len, if_pos (by omega), codesV_rd l hj, ec, if_pos rfl]
  | d + 1, i, s, hd => by
    have hi : i < l.length := by omega
    have hlen := hl.2.1; have hm := hl.2.2 _ (mem_of_getD hi); obtain ⟨a, ha⟩ : ∃ a : Nat, l[i]?.getD 0 = (a : Int) := ⟨(l[i]?.getD 0).toNat, by omega⟩
    have hrd : rd l (i : Int) = (a : Int) := by rw [rdN]; exact ha
    have hcr := codesV_rd l hi
    have hi64 : i ≤ 4611686018427387904 := by omega
    obtain ⟨s', hstep⟩ : ∃ s' : Bool, ∀ k, valiseref04_Read.l1 (k + 1) l p (codesV l) (v : Int) (L : Int) s (i : Int) b n = valiseref04_Read.l1 k l p (codesV l) (v : Int) (L : Int) s' ((i + 1 : Nat) : Int) b n := by
      by_cases ha0 : a = 0
      · subst ha0; refine ⟨s, fun k => ?_⟩; rw [valiseref04_Read.l1, if_pos (by omega), if_pos (by omega), hrd, if_neg (show ¬ ((0 : Nat) : Int) = (L : Int) by omega), w64_succ i hi64]
        cases s with
        | true => rw [if_pos rfl]
        | false => rw [if_neg (by decide), if_neg (by decide)]
      · obtain ⟨t, ht, _⟩ := begins_eq l (v := v) (L := L) (j := i) (a := a) (by omega) hL (by omega) ha; refine ⟨s || t, fun k => ?_⟩; rw [valiseref04_Read.l1, if_pos (by omega), if_pos (by omega), hrd, hcr, codesV_len, w64_succ i hi64, ht]; simp only [Option.bind_some]
        by_cases haL : a = L
        · have hne : codeN l i < v := by rw [← ec]; exact same_lt l hj (by rw [ha, ej, haL]) (by omega) (by omega)
          rw [if_pos (show (a : Int) = (L : Int) by omega), if_pos (show (i : Int) < (l.length : Int) by omega), if_neg (show ¬ ((codeN l i : Nat) : Int) = (v : Int) by omega)]
          cases s with
          | true => rw [if_pos rfl]; rfl
          | false => rw [if_neg (by decide), if_pos (show (a : Int) > 0 by omega)]; rfl
        · rw [if_neg (show ¬ (a : Int) = (L : Int) by omega)]
          cases s with
          | true => rw [if_pos rfl]; rfl
          | false => rw [if_neg (by decide), if_pos (show (a : Int) > 0 by omega), if_pos (show (i : Int) < (l.length : Int) by omega)]; rfl
    exact Ev.succ hstep (ref_read1_hit l hl b n p v L j h1 hL hj ej ec d (i + 1) s' (by omega))
theorem ref_read0 (l : List Int) (hT : Tbl l) (b : List Int) (m : Nat) (hb : Rgt b m) (hbl : b.length ≤ 140737488355328) : ∀ d p v, d ≤ 15 → p ≤ m → cX l (15 - d) ≤ v → v < 2 ^ (15 - d) →
    Ev (fun k => valiseref04_Read.l0 k l (p : Int) (codesV l) (v : Int) ((16 - d : Nat) : Int) b (m : Int)) (scan l b m d p v)
  | 0, p, v, _, _, _, _ => Ev.done (fun k => by
      show valiseref04_Read.l0 (k + 1) l (p : Int) (codesV l) (v : Int) ((16 - 0 : Nat) : Int) b (m : Int) = _
      rw [valiseref04_Read.l0, if_neg (by omega)]; rfl)
  | d + 1, p, v, hd, hp, h1, h2 => by
    obtain ⟨hl, hcs, hw⟩ := hT
    have hm : m ≤ 1125899906842624 := by have := hb.2.1; omega
    obtain ⟨L, hL⟩ : ∃ L, 15 - d = L := ⟨_, rfl⟩; obtain ⟨M, hM⟩ : ∃ M, 15 - (d + 1) = M := ⟨_, rfl⟩
    have hLM : L = M + 1 := by omega
    have hL15 : L ≤ 15 := by omega
    have hfc : firstC l L = 2 * cX l M := by subst hLM; exact firstC_succ l M
    rw [hM] at h1 h2; have hv15 : v < 32768 := Nat.lt_of_lt_of_le h2 (Nat.le_trans (Nat.pow_le_pow_right (by omega) (show M ≤ 15 by omega)) (by decide)); rw [show 16 - (d + 1) = L by omega, scan, hL]
    by_cases hmp : m ≤ p
    · rw [if_pos hmp]
      obtain rfl : p = m := by omega
      exact Ev.done (fun k => by
        show valiseref04_Read.l0 (k + 1) l (p : Int) (codesV l) (v : Int) (L : Int) b (p : Int) = _
        rw [valiseref04_Read.l0, if_pos (by omega), if_pos rfl])
    · rw [if_neg hmp]; have hbn := bat_nat b p; have hbl1 := bat_le b p; generalize (bat b p).toNat = t at hbn hbl1 ⊢; obtain ⟨v', hv'⟩ : ∃ v', 2 * v + t = v' := ⟨_, rfl⟩; rw [hv']
      have hstep : ∀ k, valiseref04_Read.l0 (k + 1) l (p : Int) (codesV l) (v : Int) (L : Int) b (m : Int) = valiseref04_Read.l1 k l ((p + 1 : Nat) : Int) (codesV l) (v' : Int) (L : Int) false ((0 : Nat) : Int) b (m : Int) := fun k => by
        rw [valiseref04_Read.l0, if_pos (by omega), if_neg (by omega), refBit_eq hb.1 _ p (by have := hb.2.1; omega) (by omega)]; simp only [Option.bind_some]; rw [← hbn, w64_succ p (by omega), w64_two v (by omega), w64_add (2 * v) t (by omega), hv']
        rfl
      by_cases hf : v' < cX l L
      · rw [if_pos hf]; obtain ⟨i, hi, e, ec, es⟩ := sym_of l (show 1 ≤ L by omega) hL15 (by omega) hf; rw [es]; exact Ev.succ hstep (ref_read1_hit l hl b _ _ v' L i (by omega) hL15 hi e ec i 0 false (by omega))
      · rw [if_neg hf]
        have hno : ∀ j, j < l.length → l[j]?.getD 0 = (L : Int) → codeN l j ≠ v' := fun j hj ej => by
          have := (code_symOf l (show 1 ≤ L by omega) hL15 hj ej).2.1
          omega
        by_cases ht : frmC l L = frmC l 15
        · rw [if_pos ht]; have hlast := (ref_read1 l hl b (m : Int) ((p + 1 : Nat) : Int) v' L (by omega) hL15 hno l.length 0 false (by omega)).2; refine Ev.succ hstep (hlast ?_); rintro (h | ⟨j, _, hj, a, ha1, ea, hLa, hc⟩)
          · cases h
          · have hma := hl.2.2 _ (mem_of_getD hj)
            rcases Nat.eq_or_lt_of_le hLa with h | h
            · subst h; rw [Nat.sub_self, Nat.pow_zero, Nat.div_one] at hc; exact hno j hj ea hc
            · have h3 := frmC_mono l (show L ≤ a - 1 by omega); have h4 := frmC_mono l (show a ≤ 15 by omega); have h5 := frmC_pred l ha1; have h6 : 0 < l.count (a : Int) := List.count_pos_iff.2 (by rw [← ea]; exact mem_of_getD hj)
              omega
        · rw [if_neg ht]
          have hw15 : cX l 15 = 32768 := by
            rcases hw with h | h
            · exact h
            · have h3 := frmC_mono l (show 1 ≤ L by omega); have h4 := frmC_mono l hL15
              omega
          obtain ⟨a, i, g1, g2, g3, g4, g5⟩ := begins_some l hw15 (15 - L) L v' (by omega) (by omega) (by omega) (by rw [hLM, Nat.pow_succ]; omega); have ih := ref_read0 l ⟨hl, hcs, hw⟩ b m hb hbl d (p + 1) v' (by omega) (by omega) (by rw [hL]; omega) (by rw [hL, hLM, Nat.pow_succ]; omega); rw [show 16 - d = L + 1 by omega] at ih; exact Ev.succ hstep ((ref_read1 l hl b (m : Int) ((p + 1 : Nat) : Int) v' L (by omega) hL15 hno l.length 0 false (by omega)).1 _ ih (.inr ⟨i, by omega, g3, a, by omega, g4, by omega, g5⟩))
theorem refNew_l0 (l : List Int) (hl : OKL l) : ∀ (d i used : Nat) (one : Int), i + d = l.length → used = ((l.take i).countP fun x => decide (x ≠ 0)) → (used = 0 → (l.take i).count 1 = 0) → (used = 1 → (one = 1 ↔ (l.take i).count 1 = 1)) →
    Ev (fun k => valiseref04_New.l0 k l 12 (used : Int) one (i : Int)) (if l.countP (fun x => decide (x ≠ 0)) = 1 ∧ l.count 1 = 1 then 0 else 12)
  | 0, i, used, one, hi, hu, h0, h1 => by
    have hlen := hl.2.1
    obtain rfl : i = l.length := by omega
    rw [List.take_length] at hu h0 h1; rw [← hu]; refine Ev.succ (g' := fun k => valiseref04_New.j1 k l 12 (used : Int) one (l.length : Int) false) (fun k => ?_) (Ev.done (fun k => ?_))
    · show valiseref04_New.l0 (k + 1) l 12 (used : Int) one (l.length : Int) = _
      rw [valiseref04_New.l0, if_neg (by omega)]
    · show valiseref04_New.j1 (k + 1) l 12 (used : Int) one (l.length : Int) false = _
      rw [valiseref04_New.j1, if_neg (by decide), if_pos rfl]
      by_cases e : used = 1
      · rw [if_pos (by omega)]
        by_cases e2 : one = 1
        · rw [if_pos e2, if_pos ⟨e, (h1 e).1 e2⟩]
        · rw [if_neg e2, if_neg (fun h => e2 ((h1 e).2 h.2))]
      · rw [if_neg (by omega), if_neg (fun h => e h.1)]
  | d + 1, i, used, one, hi, hu, h0, h1 => by
    have hlen := hl.2.1
    have hlt : i < l.length := by omega
    have hm := hl.2.2 _ (mem_of_getD hlt); have hc := take_succ_getD l hlt
    have hcp : (l.take (i + 1)).countP (fun x => decide (x ≠ 0)) = used + if l[i]?.getD 0 ≠ 0 then 1 else 0 := by
      rw [hc, List.countP_append, ← hu, List.countP_cons, List.countP_nil]
      simp
    have hct : (l.take (i + 1)).count 1 = (l.take i).count 1 + if l[i]?.getD 0 = 1 then 1 else 0 := by
      rw [hc, List.count_append, List.count_singleton]
      by_cases e : l[i]?.getD 0 = 1
      · simp [e]
      · simp [e]
    have hub : used ≤ i := by rw [hu]; exact Nat.le_trans List.countP_le_length (by rw [List.length_take]; omega)
    have hi64 : i ≤ 4611686018427387904 := by omega
    have hrd := rdN l i
    by_cases e : l[i]?.getD 0 = 0
    · rw [e] at hcp hct hrd; have ih := refNew_l0 l hl d (i + 1) used one (by omega) (by rw [hcp]; simp) (by rw [hct]; simpa using h0) (by rw [hct]; simpa using h1); refine Ev.succ (g' := fun k => valiseref04_New.j1 k l 12 (used : Int) one (i : Int) true) (fun k => ?_) (Ev.succ (fun k => ?_) ih)
      · show valiseref04_New.l0 (k + 1) l 12 (used : Int) one (i : Int) = _
        rw [valiseref04_New.l0, if_pos (by omega)]; rfl
      · show valiseref04_New.j1 (k + 1) l 12 (used : Int) one (i : Int) true = _
        rw [valiseref04_New.j1, if_pos rfl, if_pos (by omega), if_pos (by omega), hrd, if_neg (by decide), w64_succ i hi64]
    · have hpos : l[i]?.getD 0 > 0 := by omega
      rw [if_pos e] at hcp
      have ih := refNew_l0 l hl d (i + 1) (used + 1) (l[i]?.getD 0) (by omega) (by rw [hcp]) (by omega) (fun hu1 => by
        have h2 := h0 (by omega); rw [hct, h2]
        by_cases e1 : l[i]?.getD 0 = 1
        · rw [if_pos e1]; simp [e1]
        · rw [if_neg e1]; simp [e1])
      refine Ev.succ (g' := fun k => valiseref04_New.j1 k l 12 (used : Int) one (i : Int) true) (fun k => ?_) (Ev.succ (fun k => ?_) ih)
      · show valiseref04_New.l0 (k + 1) l 12 (used : Int) one (i : Int) = _
        rw [valiseref04_New.l0, if_pos (by omega)]; rfl
      · show valiseref04_New.j1 (k + 1) l 12 (used : Int) one (i : Int) true = _
        rw [valiseref04_New.j1, if_pos rfl, if_pos (by omega), if_pos (by omega), hrd, if_pos hpos, w64_succ i hi64, w64_succ used (by omega)]
theorem refNew_eq (l : List Int) : Ev (fun k => valiseref04_New.f k l) (Hu.newS l) := by
  unfold valiseref04_New.f; refine Ev.bind (a := Hu.checkS l) ⟨l.length + 3, fun k hk => check4_eq l (by omega)⟩ ?_
  by_cases h : Hu.checkS l = 12
  · have hl := okl_of_check (.inr h); have h3 := counted_rd l hl 1 (by decide); rw [if_neg (by decide)] at h3
    have e : Hu.newS l = if l.countP (fun x => decide (x ≠ 0)) = 1 ∧ l.count 1 = 1 then 0 else 12 := by
      unfold Hu.newS; rw [h, if_neg (by decide), symsL_nz]; have h7 : rd (Hu.countedS l).1 1 = ((l.count 1 : Nat) : Int) := h3; rw [h7]
      by_cases g : l.countP (fun x => decide (x ≠ 0)) = 1 ∧ l.count 1 = 1
      · rw [if_pos g, if_neg]; rintro ⟨_, h | h | h⟩
        · exact h rfl
        · exact h g.1
        exact h (by rw [g.2]; rfl)
      rw [if_neg g, if_pos]; refine ⟨by decide, .inr ?_⟩
      by_cases g1 : l.countP (fun x => decide (x ≠ 0)) = 1
      · exact .inr (fun h => g ⟨g1, by omega⟩)
      exact .inl g1
    rw [e, h]; exact refNew_l0 l hl l.length 0 0 0 (by omega) (by simp) (by simp) (by simp)
  have e : Hu.newS l = Hu.checkS l := by
    unfold Hu.newS
    by_cases h2 : Hu.checkS l = 2
    · rw [if_pos h2, h2]
    rw [if_neg h2]
    by_cases h0 : Hu.checkS l = 0
    · rw [if_neg (fun g => g.1 h0), h0]
    rw [if_pos ⟨h0, .inl h⟩]
  rw [e]; refine Ev.succ (g' := fun k => valiseref04_New.j1 k l (Hu.checkS l) 0 0 0 false) (fun k => ?_) (Ev.done (fun k => ?_))
  · show valiseref04_New.l0 (k + 1) l (Hu.checkS l) 0 0 0 = _
    rw [valiseref04_New.l0]
    by_cases hi : (0 : Int) < (l.length : Int)
    · rw [if_pos hi, beq_eq_false_iff_ne.mpr h]
    rw [if_neg hi]
  show valiseref04_New.j1 (k + 1) l (Hu.checkS l) 0 0 0 false = _
  rw [valiseref04_New.j1, if_neg (by decide), if_neg h]
theorem refRead_eq {l b : List Int} {n : Int} (p : Int) (hT : Tbl l) (hb : Byt b) (hbl : b.length ≤ 140737488355328) (h0 : -9223372036854775808 ≤ n) (h1 : n ≤ 9223372036854775807) : Ev (fun k => valiseref04_Read.f k l b n p) (readS l b n p) := by
  unfold valiseref04_Read.f readS; rw [right_eq hb hbl h0 h1]; simp only [Option.bind_some]
  by_cases hok : okR b n = true
  rotate_left
  · rw [if_neg (fun h => hok h.1)]; refine Ev.done (fun k => ?_)
    show (if okR b n = true then _ else _) = _
    rw [if_neg hok]; cases k <;> rfl
  obtain ⟨hn, hr⟩ := (okR_iff hb).1 hok
  by_cases hp : p < 0
  · rw [if_neg (fun h => absurd h.2.1 (by omega))]; refine Ev.done (fun k => ?_)
    show (if okR b n = true then (if p < 0 then _ else _) else _) = _
    rw [if_pos hok, if_pos hp]; cases k <;> rfl
  by_cases hp2 : p > n
  · rw [if_neg (fun h => absurd h.2.2 (by omega))]; refine Ev.done (fun k => ?_)
    show (if okR b n = true then (if p < 0 then _ else _) else _) = _
    rw [if_pos hok, if_neg hp, decide_eq_true hp2]; cases k <;> rfl
  rw [if_pos ⟨hok, by omega, by omega⟩]; obtain ⟨m, rfl⟩ : ∃ m : Nat, n = (m : Int) := ⟨n.toNat, by omega⟩; obtain ⟨q, rfl⟩ : ∃ q : Nat, p = (q : Int) := ⟨p.toNat, by omega⟩; rw [Int.toNat_natCast, Int.toNat_natCast]; rw [Int.toNat_natCast] at hr
  have hcd : Hu.codesS l = (codesV l, 0) := by rw [codesS_eq, if_pos hT.2.1]
  have hrc := refCodes_eq l; rw [hcd] at hrc; refine Ev.succ (g' := fun k => (valiseref04_Codes.f k l).bind fun bt => valiseref04_Read.l0 k l (q : Int) bt.1 0 1 b (m : Int)) (fun k => ?_) (Ev.bind hrc ?_)
  · show (if okR b (m : Int) = true then (if (q : Int) < 0 then _ else _) else _) = _
    rw [if_pos hok, if_neg hp, decide_eq_false hp2, valiseref04_Read.j0, if_neg (by decide)]
  exact ref_read0 l hT b m hr hbl 15 q 0 (by omega) (by omega) (by simp [cX, firstC]) (by decide)
theorem ssym_told {w0 : World} {A : Option Addr} {c : Nat} {l : List Int} (hr : RowOk w0 A c l) (w : World) (g p : Nat) (v : Value) (out : List Int) (most : Int) (H : StAt w0 w g A c l (NN l) (p : Int) v out most) (hp : p ≤ 8 * l.length) (Az : Option Addr) (cz : Nat) (z : List Int) (hz : (Kd.int .i64).C w Az z.length z) (hcz : z.length ≤ cz) (hT : Tbl z) :
    Calls Tryz.prog 37 #[.pointer (some ⟨g, 0, none⟩), .slice Az z.length cz] w fun e w' => ToldG w0 w g A c l v out most e w' (symM l (some z) p) := by
  have hlen := hr.len; obtain ⟨k, hk⟩ := refRead_eq (l := z) (b := l) (n := NN l) ((p : Nat) : Int) hT hr.byt (by omega) (by unfold NN; omega) (by unfold NN; omega); have hf := hk k (Nat.le_refl _); unfold readS at hf; rw [if_pos ⟨okR_whole hr.byt, by omega, by unfold NN; omega⟩, Int.toNat_natCast] at hf; unfold NN at hf; rw [Int.toNat_natCast] at hf; have hs := scan_place z l (8 * l.length) 15 p 0 (by omega) hp; rw [show symM l (some z) p = (if (scan z l (8 * l.length) 15 p 0).2.2 = 0 then .ok ((scan z l (8 * l.length) 15 p 0).1, (scan z l (8 * l.length) 15 p 0).2.1.toNat) else .error (scan z l (8 * l.length) 15 p 0).2.2) from rfl]; generalize scan z l (8 * l.length) 15 p 0 = r at *; obtain ⟨r1, r2, r3⟩ := r; refine (ssym_calls k w0 A c l hr.C hr.cap w g _ _ v out most Az cz z hz hcz r1 r2 r3 H hf).mono ?_; rintro e w' (⟨h0, he, hat, hm⟩ | ⟨h0, he, hb⟩)
  · obtain ⟨q, e2, h4, h5⟩ := hs h0; dsimp only at e2 ⊢; rw [if_pos h0]; subst e2; exact ⟨he, by rw [Int.toNat_natCast]; exact h5, by rw [Int.toNat_natCast]; exact hat, hm⟩
  dsimp only; rw [if_neg h0]; exact ⟨he, hb, h0⟩
-- YtgflkkjhckcipaaGreatDoorIf46
theorem and16n (n : Nat) (h : n < 65536) : n &&& (65535 - n) = 0 := by
  have e : n ^^^ 65535 = 65535 - n := by
    have h := congrArg BitVec.toNat (BitVec.xor_allOnes (x := BitVec.ofNat 16 n)); rw [BitVec.toNat_xor, BitVec.toNat_not, BitVec.toNat_allOnes, BitVec.toNat_ofNat, Nat.mod_eq_of_lt (by omega)] at h; exact h
  rw [← e]
  apply Nat.eq_of_testBit_eq
  intro i; rw [Nat.testBit_and, Nat.testBit_xor, Nat.zero_testBit, show (65535 : Nat) = 2 ^ 16 - 1 from rfl, Nat.testBit_two_pow_sub_one]
  by_cases hi : i < 16
  · simp [hi]
  have : n.testBit i = false := Nat.testBit_lt_two_pow (Nat.lt_of_lt_of_le h (show 65536 ≤ 2 ^ i from Nat.pow_le_pow_right (n := 2) (by omega) (show 16 ≤ i by omega)))
  simp [this]
theorem and16 {n m : Int} (h0 : 0 ≤ n) (h1 : n < 65536) (hm : m = 65535 - n) : Go.bits .and .i64 n m = 0 := by
  obtain ⟨k, rfl⟩ : ∃ k : Nat, n = (k : Int) := ⟨n.toNat, by omega⟩
  obtain rfl : m = ((65535 - k : Nat) : Int) := by omega
  show IntKind.i64.wrap ((BitVec.ofInt 64 (k : Int) &&& BitVec.ofInt 64 ((65535 - k : Nat) : Int)).toNat : Int) = _
  rw [BitVec.toNat_and, i64of k (by omega), i64of (65535 - k) (by omega), and16n k (by omega), IntKind.wrap_i64]
  rfl
end Go.Proofs.YtgflkkjhckcipaaGreatDoor.Pr

