-- Texts by hand and by programs of this session, joined (wip/tool/merge.py).
import Derived.Shelf.Abstract
import Derived.Shelf.RegionOpen
import Derived.OwnWalkIn
import Derived.TacticsInMore
import Derived.LoopNIn
import Derived.LoopIn
import Derived.Test.YtgflkkjhckcipaaDoorMIC11
import Derived.Recover
import Derived.Defers
-- YtgflkkjhckcipaaDoorIf16
set_option maxHeartbeats 16000000
set_option maxRecDepth 1000000
namespace Go.Proofs.YtgflkkjhckcipaaDoor.Pr
open Go.RowKit Go.Shelf Go.Proofs.YtgflkkjhckcipaaDoorW.PrintWords Go.Proofs.YtgflkkjhckcipaaDoorW.PrintLast Go.Proofs.YtgflkkjhckcipaaDoorW.PrintMore
set_option linter.unusedVariables false
set_option linter.unusedSimpArgs false
structure RMoved (w w' : World) (v v' : Value) : Prop where
  size : w.heap.size ≤ w'.heap.size
  keep : ∀ k, k < w.heap.size → some k ≠ v.ownBlock → w'.heap[k]? = w.heap[k]?
  own : v'.ownBlock = v.ownBlock ∨ ∃ j, w.heap.size ≤ j ∧ v'.ownBlock = some j
theorem RMoved.of_below {w w' : World} (v : Value) (h : Below w.heap.size w w') : RMoved w w' v v := ⟨h.size, fun k hk _ => h.block k hk, .inl rfl⟩
theorem RMoved.trans {w w1 w2 : World} {v v1 v2 : Value} (h : RMoved w w1 v v1) (k : RMoved w1 w2 v1 v2) : RMoved w w2 v v2 := by
  refine ⟨Nat.le_trans h.size k.size, fun i hi ho => ?_, ?_⟩
  · refine (k.keep i (Nat.lt_of_lt_of_le hi h.size) ?_).trans (h.keep i hi ho)
    rcases h.own with e | ⟨j, hj, e⟩
    · rw [e]; exact ho
    rw [e]; intro e2; injection e2 with e2; omega
  rcases k.own with e | ⟨j, hj, e⟩
  · rw [e]; exact h.own
  exact .inr ⟨j, Nat.le_trans h.size hj, e⟩
theorem RMoved.grown {w w' : World} {v v' : Value} (hg : w.grownBy w' v.ownBlock) (hat : v'.ownBlock = v.ownBlock ∨ ∃ b, v'.ownBlock = some b ∧ w.heap.size ≤ b) : RMoved w w' v v' := by
  refine ⟨hg.size, fun k hk ho => hg.block k hk ho, ?_⟩
  rcases hat with e | ⟨b, e, hb⟩
  · exact .inl e
  exact .inr ⟨b, hb, e⟩
def TakeIs (w : World) (b0 : Nat) (v : Value) (e : Ending) (w' : World) : Except Int (List Int) → Prop
  | .ok out' => ∃ v', e = .returned (.tuple #[v', .int .i64 0]) ∧ (Kd.int .i64).R 3 w' b0 (fun _ => True) v' out' ∧ Below b0 w w' ∧ RMoved w w' v v'
  | .error er => e = .returned (.tuple #[.slice none 0 0, .int .i64 er]) ∧ Below w.heap.size w w' ∧ er ≠ 0
def takeV (out : List Int) (s : Int) : Int := if s = 16 then out.getD (out.length - 1) 0 else if s = 17 then 0 else if s = 18 then 0 else s
def takeN (s x : Int) : Nat := if s = 16 then 3 + x.toNat else if s = 17 then 3 + x.toNat else if s = 18 then 11 + x.toNat else 1
theorem takeM_eq (out : List Int) (s x : Int) (n : Nat) : takeM out s x n = if s = 16 ∧ out.length = 0 then .error 9 else if takeN s x > n - out.length then .error 3 else .ok (out ++ List.replicate (takeN s x) (takeV out s)) := rfl
section
attribute [local go_sem] Oper.semAt_some
theorem take_calls (w : World) (b0 : Nat) (v : Value) (out : List Int) (s x : Int) (n : Nat) (hO : (Kd.int .i64).R 3 w b0 (fun _ => True) v out) (hb0 : b0 ≤ w.heap.size) (hx0 : 0 ≤ x) (hx1 : x ≤ 1000) (hn : n ≤ 1000) (hon : out.length ≤ n) :
    Calls Tryd.prog 61 #[v, .agg #[.int .i64 s, .int .i64 x], .int .i64 (n : Int)] w fun e w' => TakeIs w b0 v e w' (takeM out s x n) := by
  obtain ⟨A0, c0, rfl⟩ := Kd.R_slice hO
  rw [takeM_eq]
  have huRun := Tryd.underlying127
  have HO := Ak hO
  have HS := Ak hb0
  have HX := Ak (And.intro hx0 hx1)
  have HN := Ak hn
  have HON := Ak hon
  have BT := blk_new w (.cells #[.int .i64 s, .int .i64 x] 127 (0, 0))
  have HB1 := Ak (below_alloc (Below.refl w.heap.size w) (.cells #[.int .i64 s, .int .i64 x] 127 (0, 0)))
  have hc0 : (w.alloc (.cells #[.int .i64 s, .int .i64 x] 127 (0, 0))).cell? ⟨w.heap.size, 0, none⟩ = some (.int .i64 s) := (blk_cell BT 0).trans rfl
  have hc1 : (w.alloc (.cells #[.int .i64 s, .int .i64 x] 127 (0, 0))).cell? ⟨w.heap.size, 1, none⟩ = some (.int .i64 x) := (blk_cell BT 1).trans rfl
  clear hO hb0 hx0 hx1 hn hon
  by_cases h0 : s = 16 ∧ out.length = 0
  · rw [if_pos h0]
    obtain ⟨h0, h1⟩ := h0
    subst h0
    have q0 : ((out.length : Int) == 0) = true := by rw [h1]; rfl
    have q1 := eq_true (show (out.length : Int) = 0 by omega)
    have q2 := eq_true h1
    have HBB := HB1
    clear h1 BT
    go_enter Tryd.func61, Tryd.ntmps61
    go_wp2
    go_ret2
    exact ⟨rfl, HB1.out, by decide⟩
  rw [if_neg h0]
  obtain ⟨M, hM⟩ : ∃ M, M = (if takeN s x > n - out.length then (.error 3 : Except Int (List Int)) else .ok (out ++ List.replicate (takeN s x) (takeV out s))) := ⟨_, rfl⟩
  rw [← hM]
  have HM := Ak hM
  clear hM
  go_enter Tryd.func61, Tryd.ntmps61
  have q16 : s = 16 → ((out.length : Int) == 0) = false := fun h => beq_eq_false_iff_ne.mpr (fun e => h0 ⟨h, by omega⟩)
  have H0 := Ak h0
  clear h0
  go_upto_block 0 with (fail)
  go_cut [8, 9] from 10 (fun v8 v9 w' => v8 = .int .i64 (takeV out s) ∧ v9 = .int .i64 ((takeN s x : Nat) : Int) ∧ Aside0 (Below w.heap.size w w'))
  case first =>
    by_cases hs : s = 16
    · have q2 := q16 hs
      subst hs
      have hne : out.length ≠ 0 := fun e => H0.out ⟨rfl, e⟩
      have q3 := eq_false (show ¬ (out.length : Int) = 0 by omega)
      have hN := HN.out
      have hON := HON.out
      obtain ⟨j, hj⟩ : ∃ j, j = out.length - 1 := ⟨_, rfl⟩
      obtain ⟨ad, ead, hcell⟩ := Kd.at_int (Kd.R_reads' HO.out).2.2 ((j : Nat) : Int) (by omega) (by omega)
      subst ead
      rw [Int.toNat_natCast, rd_nat] at hcell
      obtain ⟨b, hb0⟩ : ∃ b, b = out.getD j 0 := ⟨_, rfl⟩
      rw [← hb0] at hcell
      have hwj : wrap64 ((out.length : Int) - 1) = (j : Int) := by rw [wrap64_id (by omega) (by omega)]; omega
      have pj := eq_true (show 0 ≤ (j : Int) by omega)
      have qj := eq_true (show (j : Int) < (out.length : Int) by omega)
      have hvb : takeV out 16 = b := by unfold takeV; rw [if_pos rfl, hb0, hj]
      have HVB := Ak hvb
      have HC := Ak (pw_cell_below HB1.out hcell)
      have B1 := HB1
      clear hcell hb0 hj hne hvb q16 hN hON
      have hw3 : wrap64 (3 + x) = ((takeN 16 x : Nat) : Int) := by have := HX.out; rw [show takeN 16 x = 3 + x.toNat from rfl, wrap64_id (by omega) (by omega)]; omega
      have HW3 := Ak hw3
      clear hw3
      go_upto_region 5 with (fail)
      have BT_ := blk_below BT (below_drew (Below.refl _ _))
      have HF := Ak (below_drew HB1.out)
      clear hc0 hc1 BT
      have BT := BT_
      clear BT_
      have HC_ := Ak (pw_cell_below (below_drew (Below.refl _ _)) HC.out)
      clear HC
      have HC := HC_
      clear HC_
      refine start_ (n := 11) (S := fun w' => w'.cell? ⟨w.heap.size, 1, none⟩ = some (.int .i64 x) ∧ w'.cell? (ad.add j) = some (.int .i64 b)) (ds := []) #[false, false, false, false, false, false, false, false, false, false, false] (by kernel_rfl) rfl rfl ⟨(blk_cell BT 1).trans rfl, HC.out⟩ (fun hHeld => ?_)
      refine pq_ (i := 0) (N := some 25) ?_
      refine pq_ (i := 1) (N := some 26) ?_
      refine pq_ (i := 2) (N := some 27) ?_
      refine pq_ (i := 3) (N := some 28) ?_
      refine pq_ (i := 4) (N := some 29) ?_
      refine pq_ (i := 6) (N := some 31) ?_
      refine tq_ (i := 5) (N := some 30) ?_ hHeld
      refine pq_ (i := 9) (N := some 8) ?_
      refine tq_ (i := 7) (N := some 32) ?_ hHeld
      refine pq_ (i := 8) (N := some 33) ?_
      refine pq_ (i := 10) (N := some 9) ?_
      refine done_ (by kernel_rfl) ?_
      go_wp2
      go_meet
      case rel => exact ⟨by rw [HVB.out], by rw [← HW3.out], ⟨HF.out⟩⟩
    have q0 := eq_false hs
    have q0b : (s == 16) = false := beq_eq_false_iff_ne.mpr hs
    by_cases h17 : s = 17
    · subst h17
      have hw3 : wrap64 (3 + x) = ((takeN 17 x : Nat) : Int) := by have := HX.out; rw [show takeN 17 x = 3 + x.toNat from rfl, wrap64_id (by omega) (by omega)]; omega
      have HW3 := Ak hw3
      clear hw3 q16 hs
      go_upto_region 7 with (fail)
      have BT_ := blk_below BT (below_drew (Below.refl _ _))
      have HF := Ak (below_drew HB1.out)
      clear hc0 hc1 BT
      have BT := BT_
      clear BT_
      refine start_ (n := 5) (S := fun w' => w'.cell? ⟨w.heap.size, 1, none⟩ = some (.int .i64 x)) (ds := []) #[false, false, false, false, false] (by kernel_rfl) rfl rfl ((blk_cell BT 1).trans rfl) (fun hHeld => ?_)
      refine pq_ (i := 0) (N := some 38) ?_
      refine pq_ (i := 3) (N := some 8) ?_
      refine tq_ (i := 1) (N := some 39) ?_ hHeld
      refine pq_ (i := 2) (N := some 40) ?_
      refine pq_ (i := 4) (N := some 9) ?_
      refine done_ (by kernel_rfl) ?_
      go_wp2
      go_meet
      case rel => exact ⟨rfl, by rw [← HW3.out], ⟨HF.out⟩⟩
    have q1 := eq_false h17
    have q1b : (s == 17) = false := beq_eq_false_iff_ne.mpr h17
    by_cases h18 : s = 18
    · subst h18
      have hw3 : wrap64 (11 + x) = ((takeN 18 x : Nat) : Int) := by have := HX.out; rw [show takeN 18 x = 11 + x.toNat from rfl, wrap64_id (by omega) (by omega)]; omega
      have HW3 := Ak hw3
      clear hw3 q16 hs h17
      go_upto_region 9 with (fail)
      have BT_ := blk_below BT (below_drew (Below.refl _ _))
      have HF := Ak (below_drew HB1.out)
      clear hc0 hc1 BT
      have BT := BT_
      clear BT_
      refine start_ (n := 5) (S := fun w' => w'.cell? ⟨w.heap.size, 1, none⟩ = some (.int .i64 x)) (ds := []) #[false, false, false, false, false] (by kernel_rfl) rfl rfl ((blk_cell BT 1).trans rfl) (fun hHeld => ?_)
      refine pq_ (i := 0) (N := some 45) ?_
      refine pq_ (i := 3) (N := some 8) ?_
      refine tq_ (i := 1) (N := some 46) ?_ hHeld
      refine pq_ (i := 2) (N := some 47) ?_
      refine pq_ (i := 4) (N := some 9) ?_
      refine done_ (by kernel_rfl) ?_
      go_wp2
      go_meet
      case rel => exact ⟨rfl, by rw [← HW3.out], ⟨HF.out⟩⟩
    have q2 := eq_false h18
    have q2b : (s == 18) = false := beq_eq_false_iff_ne.mpr h18
    have hv : takeV out s = s := by unfold takeV; rw [if_neg hs, if_neg h17, if_neg h18]
    have hn : takeN s x = 1 := by unfold takeN; rw [if_neg hs, if_neg h17, if_neg h18]
    have HV := Ak hv
    have HNN := Ak hn
    clear hv hn q16 hs h17 h18
    go_wp2
    go_meet
    case rel => exact ⟨by rw [HV.out], by rw [HNN.out]; rfl, ⟨HB1.out⟩⟩
  case rest =>
    obtain ⟨rfl, rfl, HB⟩ := hcut
    clear HB1 hc0 hc1 BT q16 H0
    have HR := Ak (Kd.R_below HO.out HB.out)
    have MV := Ak (RMoved.of_below (.slice A0 out.length c0) HB.out)
    have HBB := Ak (HB.out.mono HS.out)
    obtain ⟨tv, htv⟩ : ∃ tv, tv = takeV out s := ⟨_, rfl⟩
    obtain ⟨tn, htn⟩ : ∃ tn, tn = takeN s x := ⟨_, rfl⟩
    obtain ⟨rm, hrm⟩ : ∃ rm, rm = n - out.length := ⟨_, rfl⟩
    have hwr : wrap64 ((n : Int) - (out.length : Int)) = (rm : Int) := by have := HN.out; have := HON.out; rw [wrap64_id (by omega) (by omega)]; omega
    have HRM := Ak hrm
    have hM := HM.out
    rw [← htv, ← htn, ← hrm] at hM
    clear HM
    rw [← htv, ← htn]
    clear htv htn hrm
    by_cases hgt : tn > rm
    · rw [if_pos hgt] at hM
      have HM := Ak hM
      clear hM
      have q0 := eq_true (show (rm : Int) < (tn : Int) by omega)
      have q0b := decide_eq_true (show (rm : Int) < (tn : Int) by omega)
      clear hgt
      go_wp2
      go_ret2
      rw [HM.out]
      exact ⟨rfl, HB.out, by decide⟩
    rw [if_neg hgt] at hM
    have HM := Ak hM
    clear hM
    have q0 := eq_false (show ¬ (rm : Int) < (tn : Int) by omega)
    have q0b := decide_eq_false (show ¬ (rm : Int) < (tn : Int) by omega)
    have HTN := Ak (show tn ≤ rm by omega)
    clear hgt
    go_upto_region 12 with (fail)
    clear hwr
    go_wp2
    go_loopw [0, 55] (fun v0 v55 w' => ∃ (k : Nat) (ys : List Int), v55 = .int .i64 (k : Int) ∧ Aside0 (ys = out ++ List.replicate k tv) ∧ Aside0 ((Kd.int .i64).R 3 w' b0 (fun _ => True) v0 ys) ∧ Aside0 (Below b0 w w') ∧ Aside0 (RMoved w w' (.slice A0 out.length c0) v0) ∧ Aside0 (k ≤ tn)) (fun _ v _ => tn - (intOf v).toNat)
    case atStart => exact ⟨0, out, rfl, ⟨by rw [List.replicate_zero, List.append_nil]⟩, HR, HBB, MV, ⟨Nat.zero_le _⟩⟩
    case round =>
      clear HR HBB MV
      obtain ⟨k, ys, rfl, HY, HR, HBB, MV, HK⟩ := hrel
      by_cases hk : k < tn
      · have q1 := eq_true (show (k : Int) < (tn : Int) by omega)
        have q1b := decide_eq_true (show (k : Int) < (tn : Int) by omega)
        have HKL := Ak hk
        have HYL := Ak (show ys.length ≤ 3000 by have e := HY.out; have := HTN.out; have := HRM.out; have := HN.out; rw [e, List.length_append, List.length_replicate]; omega)
        have hst : ys ++ [tv] = out ++ List.replicate (k + 1) tv := by rw [HY.out, List.replicate_succ', List.append_assoc]
        have HST := Ak hst
        obtain ⟨A1, c1, rfl⟩ := Kd.R_slice HR.out
        clear hk hst
        go_wp2_with ((with_reducible refine gate_builtin (b := .append) (xs := #[.tmp 57, .tmp 59]) rfl ?_); at_builtin; refine Kd.R_append (Kd.int .i64) (w0 := w) b0 rfl (.tmp 57) (.tmp 59) 32 3 (.int .i64 0) 8 rfl Tryd.underlying32 Hu.info3 rfl (by decide) (by omega) (.slice A1 ys.length c1) ys tv [.int .i64 tv] (fun _ => True) (fun _ => False) rfl rfl ?aP (fun _ hk => hk.elim) ?aF ?aO ?aB ?aS ?aL ?_; (case aP => exact rfl); (case aF => exact (fun _ _ => trivial)); (case aO => exact HR.out); (case aB => exact HBB.out); (case aS => exact Nat.le_trans HS.out HBB.out.size); (case aL => have := HYL.out; omega); intro v3 w6 ho hb hg hat; obtain ⟨zs, hzs⟩ : ∃ zs, zs = ys ++ [tv] := ⟨_, rfl⟩; rw [← hzs] at ho; have HZS := Ak hzs; clear hzs; have MV_ := Ak (MV.out.trans (RMoved.grown hg hat)); clear HR HBB MV; have HR := Ak ho; have HBB := Ak hb; have MV := MV_; clear MV_ ho hb hg hat)
        go_roundw
        case rel => exact ⟨k + 1, zs, val_next _ (by have := HKL.out; have := HTN.out; have := HRM.out; have := HN.out; omega), ⟨by rw [HZS.out, HST.out]⟩, HR, HBB, MV, ⟨HKL.out⟩⟩
        case measure => rw [nat_next _ (by have := HKL.out; have := HTN.out; have := HRM.out; have := HN.out; omega)]; simp only [intOf, Int.toNat_natCast]; have := HKL.out; omega
      obtain rfl : k = tn := by have := HK.out; omega
      have q1 := eq_false (show ¬ (k : Int) < (k : Int) by omega)
      have q1b := decide_eq_false (show ¬ (k : Int) < (k : Int) by omega)
      clear hk
      go_wp2
      go_ret2
      rw [HM.out]
      exact ⟨_, rfl, by rw [← HY.out]; exact HR.out, HBB.out, MV.out⟩
end
end Go.Proofs.YtgflkkjhckcipaaDoor.Pr

-- YtgflkkjhckcipaaDoorIf17
namespace Go.Proofs.YtgflkkjhckcipaaDoor.Pr
open Go.RowKit Go.Shelf Go.Proofs.YtgflkkjhckcipaaDoorW.PrintWords Go.Proofs.YtgflkkjhckcipaaDoorW.PrintLast Go.Proofs.YtgflkkjhckcipaaDoorW.PrintMore
set_option linter.unusedVariables false
set_option linter.unusedSimpArgs false
def orderI : List Int := [16, 17, 18, 0, 8, 7, 9, 6, 10, 5, 11, 4, 12, 3, 13, 2, 14, 1, 15]
theorem orderI_all : ∀ i : Fin 19, rd orderI ((i.val : Nat) : Int) = ((orderL.getD i.val 0 : Nat) : Int) ∧ orderL.getD i.val 0 < 19 := by decide
theorem orderI_at {i : Nat} (h : i < 19) : rd orderI (i : Int) = ((orderL.getD i 0 : Nat) : Int) ∧ orderL.getD i 0 < 19 := orderI_all ⟨i, h⟩
theorem HMoved.row {w w' : World} {g base : Nat} {v : Value} {xs : List Int} {cells : Array Value} (h : Kd.R (Kd.int .i64) 3 w base (fun _ => True) v xs) (hb : w.heap[g]? = some (.cells cells 106 (0, 0))) (hm : HMoved w w' g) : Kd.R (Kd.int .i64) 3 w' base (fun _ => True) v xs :=
  Kd.R_mono (Kd.R_step (Kd.R_types h hb (by decide)) (fun k ho hk => hm.keep k hk ho.2)) (fun _ hk => hk.1)
theorem HRdrAt.setRow {w0 w : World} {g c gl : Nat} {A : Option Addr} {l : List Int} {N at_ : Int} (h : HRdrAt w0 w g A c l N at_) (hne : gl ≠ g) (hge : w0.heap.size ≤ gl) (i : Nat) (u : Value) : HRdrAt w0 (w.setCell ⟨gl, i, none⟩ u) g A c l N at_ :=
  ⟨h.below.setCell (p := ⟨gl, i, none⟩) hge _, h.ge, (Below.heap_setCell w ⟨gl, i, none⟩ u g (fun e => hne e.symm)).trans h.blk⟩
theorem HMoved.setRow {w w1 : World} {g gl : Nat} (h : HMoved w w1 g) (hge : w.heap.size ≤ gl) (i : Nat) (u : Value) : HMoved w (w1.setCell ⟨gl, i, none⟩ u) g :=
  ⟨by simpa [World.setCell] using h.size, fun k hk hg => (Below.heap_setCell w1 ⟨gl, i, none⟩ u k (fun e => by have e2 : k = gl := e; omega)).trans (h.keep k hk hg)⟩
theorem hnew_ok (A : Option Addr) (c n : Nat) (z : List Int) (w : World) (hn : z.length = n) (hr : (Kd.int .i64).C w A z.length z) (hz : Hu.newS z = 0) :
    Calls Tryd.prog 44 #[.slice A n c] w fun e w' => ∃ gt, e = .returned (.tuple #[.pointer (some ⟨gt, 0, none⟩), .int .i64 0]) ∧ TabIn w' gt (Hu.countedS z).1 (Hu.symsS z) ∧ Below w.heap.size w w' := by
  subst hn
  refine (Hu.huff_New_all A c z w hr (fun h => ⟨fun x hx => by
    obtain ⟨j, hj, rfl⟩ := List.getElem_of_mem hx
    have := (checkS_lens h).2.2 j hj
    rwa [List.getD_eq_getElem?_getD, List.getElem?_eq_getElem hj] at this, (checkS_lens h).2.1⟩)).mono ?_
  rintro e w' ⟨h1, _, hb⟩
  obtain ⟨gt, he, ho⟩ := h1 hz
  exact ⟨gt, he, TabIn.of_own ho, hb⟩
theorem hnew_bad (A : Option Addr) (c n : Nat) (z : List Int) (w : World) (hn : z.length = n) (hr : (Kd.int .i64).C w A z.length z) (hz : Hu.newS z ≠ 0) :
    Calls Tryd.prog 44 #[.slice A n c] w fun e w' => e = .returned (.tuple #[.pointer none, .int .i64 (Hu.newS z)]) ∧ Below w.heap.size w w' := by
  subst hn
  refine (Hu.huff_New_all A c z w hr (fun h => ⟨fun x hx => by
    obtain ⟨j, hj, rfl⟩ := List.getElem_of_mem hx
    have := (checkS_lens h).2.2 j hj
    rwa [List.getD_eq_getElem?_getD, List.getElem?_eq_getElem hj] at this, (checkS_lens h).2.1⟩)).mono ?_
  rintro e w' ⟨_, h1, hb⟩
  exact ⟨h1 hz, hb⟩
def HToldC (w0 w : World) (g : Nat) (A : Option Addr) (c : Nat) (l : List Int) (e : Ending) (w' : World) : Except Int (List Int × Nat) → Prop
  | .ok (z, p') => ∃ gt, e = .returned (.pointer (some ⟨gt, 0, none⟩)) ∧ p' ≤ 8 * l.length ∧ Hu.newS z = 0 ∧ TabIn w' gt (Hu.countedS z).1 (Hu.symsS z) ∧ HRdrAt w0 w' g A c l (NN l) ((p' : Nat) : Int) ∧ HMoved w w' g
  | .error er => HGives w0.heap.size w w' er e
section
attribute [local go_sem] Oper.semAt_some
theorem codes_told {w0 : World} {A : Option Addr} {c : Nat} {l : List Int} (hr : RowOk w0 A c l) (w : World) (g p m : Nat) (n : Int) (hn : n = (m : Int)) (hm : m ≤ 19) (H : HRdrAt w0 w g A c l (NN l) (p : Int)) (hp : p ≤ 8 * l.length) :
    Calls Tryd.prog 48 #[.pointer (some ⟨g, 0, none⟩), .int .i64 n] w fun e w' => HToldC w0 w g A c l e w' (codesM l m 0 p (List.replicate 19 0)) := by
  subst hn
  have HR := Ak hr
  have HX := Ak H
  have AT := Ak H
  have MV := Ak (HMoved.of_below g (Below.refl w.heap.size w))
  have HP := Ak hp
  have HM := Ak hm
  have qm := eq_true (show 0 ≤ (m : Int) by omega)
  obtain ⟨R, hR⟩ : ∃ R, codesM l m 0 p (List.replicate 19 0) = R := ⟨_, rfl⟩
  rw [hR]
  have HRR := Ak hR
  clear hr H hp hm hR
  go_enter Tryd.func48, Tryd.ntmps48
  go_wp2_with (first | ((with_reducible refine gate_dst (N := 10) rfl ?_); refine Kd.R_make (Kd.int .i64) (w0 := w) w.heap.size 3 ?hg (N := 10) ?hd 32 (.const (.int .i64 19)) (.const (.int .i64 19)) rfl 19 rfl rfl Tryd.underlying32 (.int .i64 0) 8 Hu.info3 rfl (by decide) (by omega) (0 : Int) (ok := fun _ => True) (okp := fun _ => False) rfl (fun _ h => h.elim) trivial (by decide) (by decide) (Below.refl _ _) (Nat.le_refl _) ?_; (case hd => rfl); (case hg => rfl); intro v1 w1 ho hb hg hat; replace ho : Kd.R (Kd.int .i64) 3 w1 w.heap.size (fun _ => True) v1 (List.replicate 19 0) := ho; obtain ⟨gl, cl, ev_, hgb, hgl_, cells_, hcells_⟩ := Kd.R_form ho (by rw [List.length_replicate]; decide); rw [List.length_replicate] at ev_; subst ev_; have HL := Ak ho; have AT_ := Ak (AT.out.on hb); have MV_ := Ak (HMoved.of_below g hb); have HBW := Ak hb; clear AT MV hgb hgl_ hcells_ ho hb hg hat; have AT := AT_; have MV := MV_; clear AT_ MV_) | (go_at_call 60; refine (header_order.calls _ _ rfl).mono ?_; rintro e w2 ⟨v2, rfl, ho, hb⟩; replace ho : Kd.R (Kd.int .i64) 3 w2 w1.heap.size (fun _ => True) v2 orderI := ho; obtain ⟨go, co, ev_, hgb, hgl_, cells_, hcells_⟩ := Kd.R_form ho (by decide); replace ev_ : v2 = .slice (some ⟨go, 0, none⟩) 19 co := ev_; subst ev_; have HNE := Ak (show gl ≠ go from by have h1 := Kd.R_lt HL.out gl rfl; have h2 := Kd.R_base ho go rfl; omega); have HO := Ak (Kd.R_lower ho HBW.out.size); have AT_ := Ak (AT.out.on hb); have MV_ := Ak (MV.out.trans (HMoved.of_below g hb)); have HL_ := Ak (Kd.R_below HL.out hb); have hcc := (Kd.R_reads' ho).2.1; have qco := eq_true (show (m : Int) ≤ (co : Int) by have := HM.out; omega); clear AT MV HL hgb hgl_ hcells_ ho hb; have AT := AT_; have MV := MV_; have HL := HL_; clear AT_ MV_ HL_) )
  clear hcc
  have HL_ := Ak (show Kd.R (Kd.int .i64) 3 w2 w.heap.size (fun _ => True) (.slice (some ⟨gl, 0, none⟩) 19 cl) (List.replicate 19 0) from HL.out)
  have HO_ := Ak (show Kd.R (Kd.int .i64) 3 w2 w.heap.size (fun _ => True) (.slice (some ⟨go, 0, none⟩) 19 co) orderI from HO.out)
  clear HL HO
  have HL := HL_
  have HO := HO_
  clear HL_ HO_
  go_loopw [15] (fun v15 w' => ∃ (i p' : Nat) (z : List Int), v15 = .int .i64 (i : Int) ∧ Aside0 (i ≤ m) ∧ Aside0 (HRdrAt w0 w' g A c l (NN l) (p' : Int)) ∧ Aside0 (HMoved w w' g) ∧ Aside0 (Kd.R (Kd.int .i64) 3 w' w.heap.size (fun _ => True) (.slice (some ⟨gl, 0, none⟩) 19 cl) z) ∧ Aside0 (Kd.R (Kd.int .i64) 3 w' w.heap.size (fun _ => True) (.slice (some ⟨go, 0, none⟩) 19 co) orderI) ∧ Aside0 (p' ≤ 8 * l.length) ∧ Aside0 (codesM l (m - i) i p' z = R)) (fun v15 _ => 20 - (intOf v15).toNat)
  case atStart => exact ⟨0, p, _, rfl, ⟨Nat.zero_le _⟩, AT, MV, HL, HO, HP, HRR⟩
  case round =>
    clear AT MV HL HO HP HRR
    obtain ⟨i, p1, z, rfl, HI, AT, MV, HL, HO, HP, HRR⟩ := hrel
    have hRR := HRR.out
    clear HRR
    by_cases hlt : i < m
    rotate_left
    · obtain rfl : i = m := by have := HI.out; omega
      rw [Nat.sub_self] at hRR
      unfold codesM at hRR
      have q0 := eq_false (show ¬ (i : Int) < (i : Int) by omega)
      by_cases hz : Hu.newS z = 0
      · rw [if_pos hz] at hRR
        have HRR := Ak hRR.symm
        have HZ := Ak hz
        clear hz hRR hlt
        go_wp2_with (first | (go_at_call 44; refine (hnew_ok (some ⟨gl, 0, none⟩) cl 19 z _ (Kd.R_reads' HL.out).1.symm (Kd.R_reads' HL.out).2.2 HZ.out).mono ?_; rintro e w3 ⟨gt, rfl, ht, hb⟩; have HT := Ak ht; have AT_ := Ak (AT.out.on hb); have MV_ := Ak (MV.out.trans (HMoved.of_below g hb)); clear AT MV HL HO ht hb; have AT := AT_; have MV := MV_; clear AT_ MV_) | (go_at_call 47; refine (hmust_zero _ _).mono ?_; rintro e w' ⟨rfl, hw_⟩; subst hw_) )
        go_ret
        rw [HRR.out]
        exact ⟨gt, rfl, HP.out, HZ.out, HT.out, AT.out, MV.out⟩
      rw [if_neg hz] at hRR
      have HRR := Ak hRR.symm
      have HZ := Ak hz
      clear hz hRR hlt
      obtain ⟨er, her⟩ : ∃ er, er = Hu.newS z := ⟨_, rfl⟩
      have HER := Ak her
      have HE0 := Ak (show er ≠ 0 from by rw [her]; exact HZ.out)
      clear her
      go_wp2_with (first | (go_at_call 44; refine (hnew_bad (some ⟨gl, 0, none⟩) cl 19 z _ (Kd.R_reads' HL.out).1.symm (Kd.R_reads' HL.out).2.2 HZ.out).mono ?_; rintro e w3 ⟨rfl, hb⟩; rw [← HER.out]; have AT_ := Ak (AT.out.on hb); have MV_ := Ak (MV.out.trans (HMoved.of_below g hb)); clear AT MV HL HO hb; have AT := AT_; have MV := MV_; clear AT_ MV_) | (go_at_call 47; refine (hmust_else _ er HE0.out _).mono ?_; rintro e w' ⟨rfl, hb⟩) )
      exact ⟨rfl, by rw [HRR.out, ← HER.out]; exact ⟨rfl, (HX.out.between AT.out MV.out.size).trans (hb.mono AT.out.below.size)⟩⟩
    obtain ⟨d, hd⟩ : ∃ d, m - i = d + 1 := ⟨m - i - 1, by omega⟩
    rw [hd] at hRR
    unfold codesM at hRR
    obtain ⟨ad, ead, hcell⟩ := Kd.at_int (Kd.R_reads' HO.out).2.2 ((i : Nat) : Int) (by omega) (by have : i < 19 := (by have := HM.out; omega); show (i : Int) < 19; omega)
    injection ead with ead
    subst ead
    rw [Int.toNat_natCast, (orderI_at (show i < 19 by have := HM.out; omega)).1] at hcell
    have hoi := (orderI_at (show i < 19 by have := HM.out; omega)).2
    obtain ⟨oi, hoe⟩ : ∃ oi, oi = orderL.getD i 0 := ⟨_, rfl⟩
    rw [← hoe] at hcell hoi hRR
    replace hcell : wr.cell? ⟨go, i, none⟩ = some (.int .i64 (oi : Int)) := (by rw [← hcell]; congr 1; simp [Addr.add])
    have HOI := Ak hoi
    have HD := Ak hd
    have q0 := eq_true (show (i : Int) < (m : Int) by omega)
    have q1 := eq_true (show 0 ≤ (i : Int) by omega)
    have q2 := eq_true (show (oi : Int) < 19 by omega)
    have q3 := eq_true (show 0 ≤ (oi : Int) by omega)
    have q4 := eq_true hlt
    have q5 := eq_true hoi
    clear hoe hoi hd
    have HLT := Ak hlt
    clear hlt
    cases hbm : bitsM l p1 3 with
    | error er =>
      rw [hbm] at hRR
      have HRR := Ak hRR.symm
      have HBM := Ak hbm
      clear hRR hbm
      go_wp2_with (go_at_call 46; have hcc := hbits_told HR.out _ g p1 3 3 rfl AT.out HP.out (by decide); rw [HBM.out] at hcc; refine hcc.mono ?_; clear hcc; rintro e w' ⟨rfl, hb⟩)
      exact ⟨rfl, by rw [HRR.out]; exact ⟨rfl, (HX.out.between AT.out MV.out.size).trans hb⟩⟩
    | ok r1 => ?_
    obtain ⟨x, p2⟩ := r1
    rw [hbm] at hRR
    dsimp only at hRR
    have HRR := Ak hRR
    have HBM := Ak hbm
    clear hRR hbm
    go_wp2_with (go_at_call 46; have hcc := hbits_told HR.out _ g p1 3 3 rfl AT.out HP.out (by decide); rw [HBM.out] at hcc; refine hcc.mono ?_; clear hcc; rintro e w' ⟨rfl, hq_, hat_, hm_⟩; have HL_ := Ak (HMoved.row HL.out AT.out.blk hm_); have HO_ := Ak (HMoved.row HO.out AT.out.blk hm_); have MV_ := Ak (MV.out.trans hm_); have HGG := Ak (show gl ≠ g from fun e => Kd.R_ne HL.out AT.out.blk (by decide) (by rw [e]; rfl)); have AT_ := Ak hat_; have HP_ := Ak hq_; clear AT MV HL HO HP hq_ hat_ hm_; have AT := AT_; have MV := MV_; have HL := HL_; have HO := HO_; have HP := HP_; clear AT_ MV_ HL_ HO_ HP_; have hcv := (Hu.row_at HL.out oi HOI.out).1; have hfv := (Hu.row_at HL.out oi HOI.out).2)
    go_roundw
    case rel => exact ⟨i + 1, p2, _, val_next _ (by have := HLT.out; have := HM.out; omega), ⟨HLT.out⟩, ⟨AT.out.setRow HGG.out (Nat.le_trans HX.out.below.size (Kd.R_base HL.out gl rfl)) oi _⟩, ⟨MV.out.setRow (Kd.R_base HL.out gl rfl) oi _⟩, ⟨(Hu.row_put HL.out oi x).1⟩, ⟨R_apart HO.out HNE.out _ _⟩, HP, ⟨by rw [show m - (i + 1) = d by have := HD.out; omega]; exact HRR.out⟩⟩
    case measure => rw [nat_next _ (by have := HLT.out; have := HM.out; omega)]; simp only [intOf, Int.toNat_natCast]; have := HLT.out; have := HM.out; omega
end
end Go.Proofs.YtgflkkjhckcipaaDoor.Pr

-- YtgflkkjhckcipaaDoorIf18
namespace Go.Proofs.YtgflkkjhckcipaaDoor.Pr
open Go.RowKit Go.Shelf Go.Proofs.YtgflkkjhckcipaaDoorW.PrintWords Go.Proofs.YtgflkkjhckcipaaDoorW.PrintLast Go.Proofs.YtgflkkjhckcipaaDoorW.PrintMore
set_option linter.unusedVariables false
set_option linter.unusedSimpArgs false
theorem read_sym {l z : List Int} (hb : Byt l) (hl : l.length ≤ 1000000) (hz : OKL z) {p : Nat} (hp : p ≤ 8 * l.length) : ∃ r1 r2 r3, readF 40 (Hu.countedS z).1 (Hu.symsS z) l (NN l) (p : Int) = some (r1, r2, r3) ∧ ((r3 = 0 ∧ ∃ q : Nat, r2 = (q : Int) ∧ symM l (some z) p = .ok (r1, q)) ∨ (r3 ≠ 0 ∧ symM l (some z) p = .error r3)) := by
  have hf := readF_eq (k := 40) (Nat.le_refl _) (l := z) (b := l) (n := NN l) ((p : Nat) : Int) hz hb (by omega) (by unfold NN; omega) (by unfold NN; omega)
  unfold readS at hf
  rw [if_pos ⟨okR_whole hb, by omega, by unfold NN; omega⟩, Int.toNat_natCast] at hf
  unfold NN at hf
  rw [Int.toNat_natCast] at hf
  have hs := scan_place z l (8 * l.length) 15 p 0 (by omega) hp
  rw [show symM l (some z) p = (if (scan z l (8 * l.length) 15 p 0).2.2 = 0 then .ok ((scan z l (8 * l.length) 15 p 0).1, (scan z l (8 * l.length) 15 p 0).2.1.toNat) else .error (scan z l (8 * l.length) 15 p 0).2.2) from rfl]
  generalize scan z l (8 * l.length) 15 p 0 = r at *
  obtain ⟨r1, r2, r3⟩ := r
  refine ⟨r1, r2, r3, hf, ?_⟩
  dsimp only at hs ⊢
  by_cases h0 : r3 = 0
  · obtain ⟨q, e2, h4, h5⟩ := hs h0
    exact .inl ⟨h0, q, e2, by rw [if_pos h0, e2, Int.toNat_natCast]⟩
  exact .inr ⟨h0, by rw [if_neg h0]⟩
theorem read_sym_ok {l z : List Int} (hb : Byt l) (hl : l.length ≤ 1000000) (hz : OKL z) {p q : Nat} {s : Int} (hp : p ≤ 8 * l.length) (h : symM l (some z) p = .ok (s, q)) : readF 40 (Hu.countedS z).1 (Hu.symsS z) l (NN l) (p : Int) = some (s, (q : Int), 0) := by
  obtain ⟨r1, r2, r3, hf, ⟨h0, q2, e, he⟩ | ⟨h0, he⟩⟩ := read_sym hb hl hz hp
  · rw [h] at he
    injection he with he
    injection he with h1 h2
    subst h1 h2 e h0
    exact hf
  rw [h] at he
  cases he
theorem read_sym_bad {l z : List Int} (hb : Byt l) (hl : l.length ≤ 1000000) (hz : OKL z) {p : Nat} {er : Int} (hp : p ≤ 8 * l.length) (h : symM l (some z) p = .error er) : ∃ r1 r2, readF 40 (Hu.countedS z).1 (Hu.symsS z) l (NN l) (p : Int) = some (r1, r2, er) ∧ er ≠ 0 := by
  obtain ⟨r1, r2, r3, hf, ⟨h0, q2, e, he⟩ | ⟨h0, he⟩⟩ := read_sym hb hl hz hp
  · rw [h] at he
    cases he
  rw [h] at he
  injection he with h1
  subst h1
  exact ⟨r1, r2, hf, h0⟩
theorem extra_eq (s : Int) : header_extra.f s = some ((extraN s : Nat) : Int) := by
  unfold header_extra.f extraN
  split
  · rfl
  split
  · rfl
  split <;> rfl
theorem extraN_le (s : Int) : extraN s ≤ 7 := by
  unfold extraN
  split
  · decide
  split
  · decide
  split <;> decide
theorem takeM_ok {out o2 : List Int} {s x : Int} {n : Nat} (h : takeM out s x n = .ok o2) (hl : out.length ≤ n) : o2.length ≤ n ∧ out.length < o2.length := by
  rw [takeM_eq] at h
  split at h
  · cases h
  split at h
  · cases h
  next h1 =>
  injection h with h
  subst h
  have : 0 < takeN s x := by unfold takeN; split; omega; split; omega; split <;> omega
  rw [List.length_append, List.length_replicate]
  omega
theorem HRdrAt.onB {w0 w w' : World} {g c b0 : Nat} {A : Option Addr} {l : List Int} {N at_ : Int} (h : HRdrAt w0 w g A c l N at_) (hg : g < b0) (h0 : w0.heap.size ≤ b0) (hb : Below b0 w w') : HRdrAt w0 w' g A c l N at_ :=
  ⟨h.below.trans (hb.mono h0), h.ge, (hb.block g hg).trans h.blk⟩
theorem HMoved.onB {w w1 w2 : World} {g : Nat} (h : HMoved w w1 g) (hb : Below w.heap.size w1 w2) : HMoved w w2 g := ⟨Nat.le_trans h.size hb.size, fun k hk hg => (hb.block k hk).trans (h.keep k hk hg)⟩
theorem TabIn.hmoved {w w' : World} {g gt : Nat} {cl ss : List Int} {cells : Array Value} (h : TabIn w gt cl ss) (hb : w.heap[g]? = some (.cells cells 106 (0, 0))) (hm : HMoved w w' g) : TabIn w' gt cl ss := h.same fun k t cells2 hc ht => by
  refine hm.keep k (blk_lt hc) (fun e => ?_)
  subst e
  rw [hc] at hb
  injection hb with hb
  injection hb with _ hb _
  rcases ht with rfl | rfl <;> exact absurd hb (by decide)
def HToldL (w0 w : World) (g : Nat) (A : Option Addr) (c : Nat) (l : List Int) (n : Nat) (e : Ending) (w' : World) : Except Int (List Int × Nat) → Prop
  | .ok (all, p') => ∃ v', e = .returned v' ∧ (Kd.int .i64).R 3 w' w.heap.size (fun _ => True) v' all ∧ all.length = n ∧ p' ≤ 8 * l.length ∧ HRdrAt w0 w' g A c l (NN l) ((p' : Nat) : Int) ∧ HMoved w w' g
  | .error er => HGives w0.heap.size w w' er e
section
attribute [local go_sem] Oper.semAt_some
theorem lengths_told {w0 : World} {A : Option Addr} {c : Nat} {l : List Int} (hr : RowOk w0 A c l) (w : World) (g p n : Nat) (m : Int) (hm : m = (n : Int)) (hn : n ≤ 1000) (H : HRdrAt w0 w g A c l (NN l) (p : Int)) (hp : p ≤ 8 * l.length) (gt : Nat) (z : List Int) (hz : OKL z) (hT : TabIn w gt (Hu.countedS z).1 (Hu.symsS z)) (k : Nat) (hk : 8 * l.length - p < k) :
    Calls Tryd.prog 49 #[.pointer (some ⟨g, 0, none⟩), .pointer (some ⟨gt, 0, none⟩), .int .i64 m] w fun e w' => HToldL w0 w g A c l n e w' (lengthsM l z n k p []) := by
  subst hm
  have HR := Ak hr
  have HX := Ak H
  have AT := Ak H
  have MV := Ak (HMoved.of_below g (Below.refl w.heap.size w))
  have HP := Ak hp
  have HN := Ak hn
  have HT := Ak hT
  have HZ := Ak hz
  have HK := Ak hk
  have huR := Tryd.underlying106
  have huB := Tryd.underlying35
  have HO := Ak (show (Kd.int .i64).R 3 w w.heap.size (fun _ => True) (.slice none 0 0) [] from Kd.R_nil _ _ _ _ _)
  obtain ⟨R, hR⟩ : ∃ R, lengthsM l z n k p [] = R := ⟨_, rfl⟩
  rw [hR]
  have HRR := Ak hR
  clear hr H hp hn hT hz hk hR
  go_enter Tryd.func49, Tryd.ntmps49
  go_wp2
  go_loopg [7] k (fun kq v7 w' => ∃ (p' : Nat) (out : List Int), Aside0 (HRdrAt w0 w' g A c l (NN l) (p' : Int)) ∧ Aside0 (HMoved w w' g) ∧ Aside0 ((Kd.int .i64).R 3 w' w.heap.size (fun _ => True) v7 out) ∧ Aside0 (p' ≤ 8 * l.length) ∧ Aside0 (out.length ≤ n) ∧ Aside0 (lengthsM l z n kq p' out = R) ∧ Aside0 (8 * l.length - p' < kq))
  case atStart => exact ⟨p, [], AT, MV, HO, HP, ⟨Nat.zero_le _⟩, HRR, HK⟩
  case round =>
    clear AT MV HO HP HRR HK
    obtain ⟨p1, out, AT, MV, HO, HP, HOL, HRR, HK⟩ := hrel
    have hRR := HRR.out
    clear HRR
    obtain ⟨A1, c1, ev1⟩ := Kd.R_slice HO.out
    cases gk with
    | zero => exact absurd HK.out (by omega)
    | succ k1 => ?_
    unfold lengthsM at hRR
    by_cases hlt : out.length < n
    rotate_left
    · rw [if_neg hlt] at hRR
      have q0 := eq_false (show ¬ (out.length : Int) < (n : Int) by omega)
      have q0b := eq_false hlt
      have HRR := Ak hRR.symm
      have HLN := Ak (show out.length = n by have := HOL.out; omega)
      clear hRR hlt
      subst ev1
      go_wp2
      go_ret
      rw [HRR.out]
      exact ⟨_, rfl, HO.out, HLN.out, HP.out, AT.out, MV.out⟩
    rw [if_pos hlt] at hRR
    have q0 := eq_true (show (out.length : Int) < (n : Int) by omega)
    have q0b := eq_true hlt
    obtain ⟨v1, hv1⟩ : ∃ v1, v1 = Value.slice A1 out.length c1 := ⟨_, rfl⟩
    subst ev1
    cases hsm : symM l (some z) p1 with
    | error er =>
      rw [hsm] at hRR
      have HRR := Ak hRR.symm
      obtain ⟨r1, r2, hf, he0⟩ := read_sym_bad HR.out.byt HR.out.len HZ.out HP.out hsm
      have HF := Ak hf
      have HE0 := Ak he0
      clear hRR hsm hf he0 hlt
      go_upto_region 3 with (fail)
      have hb := below_drew (Below.refl wr.heap.size wr)
      replace AT := Ak (AT.out.on hb)
      replace MV := Ak (MV.out.onB (hb.mono MV.out.size))
      replace HO := Ak (Kd.R_below HO.out hb)
      clear hb
      refine start_ (n := 17) (S := fun w' => w'.cell? ⟨g, 0, none⟩ = some (.slice A l.length c) ∧ w'.cell? ⟨g, 1, none⟩ = some (.int .i64 (NN l)) ∧ w'.cell? ⟨g, 2, none⟩ = some (.int .i64 (p1 : Int))) (ds := []) #[false, false, false, false, false, false, false, false, false, false, false, false, false, false, false, false, false] (by kernel_rfl) rfl rfl ⟨(blk_cell AT.out.blk 0).trans rfl, (blk_cell AT.out.blk 1).trans rfl, (blk_cell AT.out.blk 2).trans rfl⟩ (fun hHeld => ?_)
      generalize wr.drew = wd at AT MV HO hHeld ⊢
      refine pq_ (i := 0) (N := some 16) ?_
      refine pq_ (i := 1) (N := some 17) ?_
      refine pq_ (i := 2) (N := some 18) ?_
      refine pq_ (i := 3) (N := some 19) ?_
      refine pq_ (i := 5) (N := some 21) ?_
      refine pq_ (i := 6) (N := some 22) ?_
      refine pq_ (i := 7) (N := some 23) ?_
      refine tq_ (i := 4) (N := some 20) ?_ hHeld
      refine tq_ (i := 8) (N := some 24) ?_ hHeld
      refine one_ (i := 9) (N := some 25) #[true, true, true, true, true, true, true, true, true, true, false, false, false, false, false, false, false] rfl rfl (by kernel_rfl) (by decide) (fun K hK => ?_)
      refine goes_ Tryd.func50 (by kernel_rfl) rfl #[.pointer (some ⟨gt, 0, none⟩), .agg #[.slice A l.length c, .int .i64 (NN l)], .int .i64 (p1 : Int)] (by rfl) rfl rfl (by simp only [List.map_toArray, List.map_cons, List.map_nil]; rfl) ?_
      with_reducible refine (table_Read.calls 40 gt A c l (NN l) (p1 : Int) _ _ r1 r2 er _ (Kd.C_below HR.out.C AT.out.below) HR.out.cap (HT.out.hmoved HX.out.blk MV.out).at_ HF.out).mono ?_
      rintro e w5 ⟨rfl, hb⟩
      refine ⟨_, rfl, ?_⟩
      replace AT := Ak (AT.out.on hb)
      replace MV := Ak (MV.out.onB (hb.mono MV.out.size))
      replace HO := Ak (Kd.R_below HO.out hb)
      clear hb
      refine hK.out _ _ ⟨(blk_cell AT.out.blk 0).trans rfl, (blk_cell AT.out.blk 1).trans rfl, (blk_cell AT.out.blk 2).trans rfl⟩ (fun hHeld => ?_)
      clear hK K
      refine norm_ (a' := ?_) ?_ ?_
      rotate_left
      · show Act.put _ (some 25) _ = _
        simp only [Act.put, List.setIfInBounds_toArray, List.set_cons_zero, List.set_cons_succ, i64_w, i32_w, u8_w]
        rfl
      refine pq_ (i := 10) (N := some 15) ?_
      refine pq_ (i := 11) (N := some 26) ?_
      refine pq_ (i := 12) (N := some 27) ?_
      refine pq_ (i := 13) (N := some 28) ?_
      refine pq_ (i := 14) (N := some 8) ?_
      refine pq_ (i := 15) (N := some 9) ?_
      refine pq_ (i := 16) (N := some 10) ?_
      refine done_ (by kernel_rfl) ?_
      go_wp2_with (go_at_call 47; refine (hmust_else _ er HE0.out _).mono ?_; rintro e w' ⟨rfl, hb⟩)
      exact ⟨rfl, by rw [HRR.out]; exact ⟨rfl, (HX.out.between AT.out MV.out.size).trans (hb.mono AT.out.below.size)⟩⟩
    | ok r1 => ?_
    obtain ⟨s, p2⟩ := r1
    have hsb := symM_ok HZ.out HP.out hsm
    rw [hsm] at hRR
    dsimp only at hRR
    have HF := Ak (read_sym_ok HR.out.byt HR.out.len HZ.out HP.out hsm)
    have HSB := Ak hsb
    have HP2 := Ak hsb.2.2.2.2
    have HEX := Ak (extra_eq s)
    clear hsm hsb hlt
    cases hbm : bitsM l p2 (extraN s) with
    | error er =>
      rw [hbm] at hRR
      have HRR := Ak hRR.symm
      have HBM := Ak hbm
      clear hRR hbm
      go_upto_region 3 with (fail)
      have hb := below_drew (Below.refl wr.heap.size wr)
      replace AT := Ak (AT.out.on hb)
      replace MV := Ak (MV.out.onB (hb.mono MV.out.size))
      replace HO := Ak (Kd.R_below HO.out hb)
      clear hb
      refine start_ (n := 17) (S := fun w' => w'.cell? ⟨g, 0, none⟩ = some (.slice A l.length c) ∧ w'.cell? ⟨g, 1, none⟩ = some (.int .i64 (NN l)) ∧ w'.cell? ⟨g, 2, none⟩ = some (.int .i64 (p1 : Int))) (ds := []) #[false, false, false, false, false, false, false, false, false, false, false, false, false, false, false, false, false] (by kernel_rfl) rfl rfl ⟨(blk_cell AT.out.blk 0).trans rfl, (blk_cell AT.out.blk 1).trans rfl, (blk_cell AT.out.blk 2).trans rfl⟩ (fun hHeld => ?_)
      generalize wr.drew = wd at AT MV HO hHeld ⊢
      refine pq_ (i := 0) (N := some 16) ?_
      refine pq_ (i := 1) (N := some 17) ?_
      refine pq_ (i := 2) (N := some 18) ?_
      refine pq_ (i := 3) (N := some 19) ?_
      refine pq_ (i := 5) (N := some 21) ?_
      refine pq_ (i := 6) (N := some 22) ?_
      refine pq_ (i := 7) (N := some 23) ?_
      refine tq_ (i := 4) (N := some 20) ?_ hHeld
      refine tq_ (i := 8) (N := some 24) ?_ hHeld
      refine one_ (i := 9) (N := some 25) #[true, true, true, true, true, true, true, true, true, true, false, false, false, false, false, false, false] rfl rfl (by kernel_rfl) (by decide) (fun K hK => ?_)
      refine goes_ Tryd.func50 (by kernel_rfl) rfl #[.pointer (some ⟨gt, 0, none⟩), .agg #[.slice A l.length c, .int .i64 (NN l)], .int .i64 (p1 : Int)] (by rfl) rfl rfl (by simp only [List.map_toArray, List.map_cons, List.map_nil]; rfl) ?_
      with_reducible refine (table_Read.calls 40 gt A c l (NN l) (p1 : Int) _ _ s (p2 : Int) 0 _ (Kd.C_below HR.out.C AT.out.below) HR.out.cap (HT.out.hmoved HX.out.blk MV.out).at_ HF.out).mono ?_
      rintro e w5 ⟨rfl, hb⟩
      refine ⟨_, rfl, ?_⟩
      replace AT := Ak (AT.out.on hb)
      replace MV := Ak (MV.out.onB (hb.mono MV.out.size))
      replace HO := Ak (Kd.R_below HO.out hb)
      clear hb
      refine hK.out _ _ ⟨(blk_cell AT.out.blk 0).trans rfl, (blk_cell AT.out.blk 1).trans rfl, (blk_cell AT.out.blk 2).trans rfl⟩ (fun hHeld => ?_)
      clear hK K
      refine norm_ (a' := ?_) ?_ ?_
      rotate_left
      · show Act.put _ (some 25) _ = _
        simp only [Act.put, List.setIfInBounds_toArray, List.set_cons_zero, List.set_cons_succ, i64_w, i32_w, u8_w]
        rfl
      refine pq_ (i := 10) (N := some 15) ?_
      refine pq_ (i := 11) (N := some 26) ?_
      refine pq_ (i := 12) (N := some 27) ?_
      refine pq_ (i := 13) (N := some 28) ?_
      refine pq_ (i := 14) (N := some 8) ?_
      refine pq_ (i := 15) (N := some 9) ?_
      refine pq_ (i := 16) (N := some 10) ?_
      refine done_ (by kernel_rfl) ?_
      have hc2 : w5.cell? ⟨g, 2, none⟩ = some (.int .i64 (p1 : Int)) := (blk_cell AT.out.blk 2).trans rfl
      have hf2 := blk_frozen AT.out.blk 2
      go_wp2_with (first | (go_at_call 47; with_reducible refine (hmust_zero _ _).mono ?_; rintro e w' ⟨rfl, hw_⟩; subst hw_) | (go_at_call 62; refine (header_extra.calls s _ _ HEX.out).mono ?_; rintro e w6 ⟨rfl, hd⟩; have hb := hd.below; have AT0 := Ak (AT.out.setAt (p2 : Int)); have MV0 := Ak (MV.out.set_ 2 (.int .i64 (p2 : Int))); have HO0 := Ak (Kd.R_set HO.out AT.out.blk (by decide) 2 (.int .i64 (p2 : Int))); clear AT MV HO; have AT := Ak (AT0.out.on hb); have MV := Ak (MV0.out.onB (hb.mono MV0.out.size)); have HO := Ak (Kd.R_below HO0.out hb); clear AT0 MV0 HO0 hb hd HEX) | (go_at_call 46; have hcc := hbits_told HR.out _ g p2 (extraN s) _ rfl AT.out HP2.out (by have := extraN_le s; omega); rw [HBM.out] at hcc; refine hcc.mono ?_; clear hcc; rintro e w' ⟨rfl, hb⟩) )
      exact ⟨rfl, by rw [HRR.out]; exact ⟨rfl, (HX.out.between AT.out MV.out.size).trans hb⟩⟩
    | ok r2 => ?_
    obtain ⟨x, p3⟩ := r2
    have hbk := bitsM_ok hbm
    rw [hbm] at hRR
    dsimp only at hRR
    have HXX := Ak (show 0 ≤ x ∧ x ≤ 1000 from by have h1 := getV_range l p2 (extraN s); have h2 : (2 : Int) ^ extraN s ≤ 2 ^ 7 := pow_le2 (extraN_le s); rw [hbk.1]; omega)
    have HB3 := Ak hbk.2
    have HBM := Ak hbm
    clear hbm hbk
    cases htm : takeM out s x n with
    | error er =>
      rw [htm] at hRR
      have HRR := Ak hRR.symm
      have HTM := Ak htm
      clear hRR htm
      go_upto_region 3 with (fail)
      have hb := below_drew (Below.refl wr.heap.size wr)
      replace AT := Ak (AT.out.on hb)
      replace MV := Ak (MV.out.onB (hb.mono MV.out.size))
      replace HO := Ak (Kd.R_below HO.out hb)
      clear hb
      refine start_ (n := 17) (S := fun w' => w'.cell? ⟨g, 0, none⟩ = some (.slice A l.length c) ∧ w'.cell? ⟨g, 1, none⟩ = some (.int .i64 (NN l)) ∧ w'.cell? ⟨g, 2, none⟩ = some (.int .i64 (p1 : Int))) (ds := []) #[false, false, false, false, false, false, false, false, false, false, false, false, false, false, false, false, false] (by kernel_rfl) rfl rfl ⟨(blk_cell AT.out.blk 0).trans rfl, (blk_cell AT.out.blk 1).trans rfl, (blk_cell AT.out.blk 2).trans rfl⟩ (fun hHeld => ?_)
      generalize wr.drew = wd at AT MV HO hHeld ⊢
      refine pq_ (i := 0) (N := some 16) ?_
      refine pq_ (i := 1) (N := some 17) ?_
      refine pq_ (i := 2) (N := some 18) ?_
      refine pq_ (i := 3) (N := some 19) ?_
      refine pq_ (i := 5) (N := some 21) ?_
      refine pq_ (i := 6) (N := some 22) ?_
      refine pq_ (i := 7) (N := some 23) ?_
      refine tq_ (i := 4) (N := some 20) ?_ hHeld
      refine tq_ (i := 8) (N := some 24) ?_ hHeld
      refine one_ (i := 9) (N := some 25) #[true, true, true, true, true, true, true, true, true, true, false, false, false, false, false, false, false] rfl rfl (by kernel_rfl) (by decide) (fun K hK => ?_)
      refine goes_ Tryd.func50 (by kernel_rfl) rfl #[.pointer (some ⟨gt, 0, none⟩), .agg #[.slice A l.length c, .int .i64 (NN l)], .int .i64 (p1 : Int)] (by rfl) rfl rfl (by simp only [List.map_toArray, List.map_cons, List.map_nil]; rfl) ?_
      with_reducible refine (table_Read.calls 40 gt A c l (NN l) (p1 : Int) _ _ s (p2 : Int) 0 _ (Kd.C_below HR.out.C AT.out.below) HR.out.cap (HT.out.hmoved HX.out.blk MV.out).at_ HF.out).mono ?_
      rintro e w5 ⟨rfl, hb⟩
      refine ⟨_, rfl, ?_⟩
      replace AT := Ak (AT.out.on hb)
      replace MV := Ak (MV.out.onB (hb.mono MV.out.size))
      replace HO := Ak (Kd.R_below HO.out hb)
      clear hb
      refine hK.out _ _ ⟨(blk_cell AT.out.blk 0).trans rfl, (blk_cell AT.out.blk 1).trans rfl, (blk_cell AT.out.blk 2).trans rfl⟩ (fun hHeld => ?_)
      clear hK K
      refine norm_ (a' := ?_) ?_ ?_
      rotate_left
      · show Act.put _ (some 25) _ = _
        simp only [Act.put, List.setIfInBounds_toArray, List.set_cons_zero, List.set_cons_succ, i64_w, i32_w, u8_w]
        rfl
      refine pq_ (i := 10) (N := some 15) ?_
      refine pq_ (i := 11) (N := some 26) ?_
      refine pq_ (i := 12) (N := some 27) ?_
      refine pq_ (i := 13) (N := some 28) ?_
      refine pq_ (i := 14) (N := some 8) ?_
      refine pq_ (i := 15) (N := some 9) ?_
      refine pq_ (i := 16) (N := some 10) ?_
      refine done_ (by kernel_rfl) ?_
      have hc2 : w5.cell? ⟨g, 2, none⟩ = some (.int .i64 (p1 : Int)) := (blk_cell AT.out.blk 2).trans rfl
      have hf2 := blk_frozen AT.out.blk 2
      go_wp2_with (first | (go_at_call 47; with_reducible refine (hmust_zero _ _).mono ?_; rintro e w' ⟨rfl, hw_⟩; subst hw_) | (go_at_call 62; refine (header_extra.calls s _ _ HEX.out).mono ?_; rintro e w6 ⟨rfl, hd⟩; have hb := hd.below; have AT0 := Ak (AT.out.setAt (p2 : Int)); have MV0 := Ak (MV.out.set_ 2 (.int .i64 (p2 : Int))); have HO0 := Ak (Kd.R_set HO.out AT.out.blk (by decide) 2 (.int .i64 (p2 : Int))); clear AT MV HO; have AT := Ak (AT0.out.on hb); have MV := Ak (MV0.out.onB (hb.mono MV0.out.size)); have HO := Ak (Kd.R_below HO0.out hb); clear AT0 MV0 HO0 hb hd HEX) | (go_at_call 46; have hcc := hbits_told HR.out _ g p2 (extraN s) _ rfl AT.out HP2.out (by have := extraN_le s; omega); rw [HBM.out] at hcc; refine hcc.mono ?_; clear hcc; rintro e w' ⟨rfl, hq_, hat_, hm_⟩; have HO_ := Ak (HMoved.row HO.out AT.out.blk hm_); have MV_ := Ak (MV.out.trans hm_); have AT_ := Ak hat_; have HP_ := Ak hq_; clear AT MV HO HP2 hq_ hat_ hm_; have AT := AT_; have MV := MV_; have HO := HO_; have HP2 := HP_; clear AT_ MV_ HO_ HP_) | (go_at_call 61; have hcc := take_calls _ w.heap.size _ out s x n HO.out MV.out.size HXX.out.1 HXX.out.2 HN.out HOL.out; rw [HTM.out] at hcc; refine hcc.mono ?_; clear hcc; rintro e w' ⟨rfl, hb, hne_⟩; have HE0 := Ak hne_; have AT_ := Ak (AT.out.on hb); have MV_ := Ak (MV.out.onB (hb.mono MV.out.size)); clear AT MV HO hb hne_; have AT := AT_; have MV := MV_; clear AT_ MV_) | (go_at_call 47; refine (hmust_else _ er HE0.out _).mono ?_; rintro e w' ⟨rfl, hb⟩) )
      exact ⟨rfl, by rw [HRR.out]; exact ⟨rfl, (HX.out.between AT.out MV.out.size).trans (hb.mono AT.out.below.size)⟩⟩
    | ok out2 => ?_
    have hto := takeM_ok htm HOL.out
    rw [htm] at hRR
    dsimp only at hRR
    have HRR := Ak hRR
    have HTM := Ak htm
    have HTO := Ak hto.1
    clear hRR htm hto
    go_upto_region 3 with (fail)
    have hb := below_drew (Below.refl wr.heap.size wr)
    replace AT := Ak (AT.out.on hb)
    replace MV := Ak (MV.out.onB (hb.mono MV.out.size))
    replace HO := Ak (Kd.R_below HO.out hb)
    clear hb
    refine start_ (n := 17) (S := fun w' => w'.cell? ⟨g, 0, none⟩ = some (.slice A l.length c) ∧ w'.cell? ⟨g, 1, none⟩ = some (.int .i64 (NN l)) ∧ w'.cell? ⟨g, 2, none⟩ = some (.int .i64 (p1 : Int))) (ds := []) #[false, false, false, false, false, false, false, false, false, false, false, false, false, false, false, false, false] (by kernel_rfl) rfl rfl ⟨(blk_cell AT.out.blk 0).trans rfl, (blk_cell AT.out.blk 1).trans rfl, (blk_cell AT.out.blk 2).trans rfl⟩ (fun hHeld => ?_)
    generalize wr.drew = wd at AT MV HO hHeld ⊢
    refine pq_ (i := 0) (N := some 16) ?_
    refine pq_ (i := 1) (N := some 17) ?_
    refine pq_ (i := 2) (N := some 18) ?_
    refine pq_ (i := 3) (N := some 19) ?_
    refine pq_ (i := 5) (N := some 21) ?_
    refine pq_ (i := 6) (N := some 22) ?_
    refine pq_ (i := 7) (N := some 23) ?_
    refine tq_ (i := 4) (N := some 20) ?_ hHeld
    refine tq_ (i := 8) (N := some 24) ?_ hHeld
    refine one_ (i := 9) (N := some 25) #[true, true, true, true, true, true, true, true, true, true, false, false, false, false, false, false, false] rfl rfl (by kernel_rfl) (by decide) (fun K hK => ?_)
    refine goes_ Tryd.func50 (by kernel_rfl) rfl #[.pointer (some ⟨gt, 0, none⟩), .agg #[.slice A l.length c, .int .i64 (NN l)], .int .i64 (p1 : Int)] (by rfl) rfl rfl (by simp only [List.map_toArray, List.map_cons, List.map_nil]; rfl) ?_
    with_reducible refine (table_Read.calls 40 gt A c l (NN l) (p1 : Int) _ _ s (p2 : Int) 0 _ (Kd.C_below HR.out.C AT.out.below) HR.out.cap (HT.out.hmoved HX.out.blk MV.out).at_ HF.out).mono ?_
    rintro e w5 ⟨rfl, hb⟩
    refine ⟨_, rfl, ?_⟩
    replace AT := Ak (AT.out.on hb)
    replace MV := Ak (MV.out.onB (hb.mono MV.out.size))
    replace HO := Ak (Kd.R_below HO.out hb)
    clear hb
    refine hK.out _ _ ⟨(blk_cell AT.out.blk 0).trans rfl, (blk_cell AT.out.blk 1).trans rfl, (blk_cell AT.out.blk 2).trans rfl⟩ (fun hHeld => ?_)
    clear hK K
    refine norm_ (a' := ?_) ?_ ?_
    rotate_left
    · show Act.put _ (some 25) _ = _
      simp only [Act.put, List.setIfInBounds_toArray, List.set_cons_zero, List.set_cons_succ, i64_w, i32_w, u8_w]
      rfl
    refine pq_ (i := 10) (N := some 15) ?_
    refine pq_ (i := 11) (N := some 26) ?_
    refine pq_ (i := 12) (N := some 27) ?_
    refine pq_ (i := 13) (N := some 28) ?_
    refine pq_ (i := 14) (N := some 8) ?_
    refine pq_ (i := 15) (N := some 9) ?_
    refine pq_ (i := 16) (N := some 10) ?_
    refine done_ (by kernel_rfl) ?_
    have hc2 : w5.cell? ⟨g, 2, none⟩ = some (.int .i64 (p1 : Int)) := (blk_cell AT.out.blk 2).trans rfl
    have hf2 := blk_frozen AT.out.blk 2
    go_wp2_with (first | (go_at_call 47; refine (hmust_zero _ _).mono ?_; rintro e w' ⟨rfl, hw_⟩; subst hw_) | (go_at_call 62; refine (header_extra.calls s _ _ HEX.out).mono ?_; rintro e w6 ⟨rfl, hd⟩; have hb := hd.below; have AT0 := Ak (AT.out.setAt (p2 : Int)); have MV0 := Ak (MV.out.set_ 2 (.int .i64 (p2 : Int))); have HO0 := Ak (Kd.R_set HO.out AT.out.blk (by decide) 2 (.int .i64 (p2 : Int))); clear AT MV HO; have AT := Ak (AT0.out.on hb); have MV := Ak (MV0.out.onB (hb.mono MV0.out.size)); have HO := Ak (Kd.R_below HO0.out hb); clear AT0 MV0 HO0 hb hd HEX) | (go_at_call 46; have hcc := hbits_told HR.out _ g p2 (extraN s) _ rfl AT.out HP2.out (by have := extraN_le s; omega); rw [HBM.out] at hcc; refine hcc.mono ?_; clear hcc; rintro e w' ⟨rfl, hq_, hat_, hm_⟩; have HO_ := Ak (HMoved.row HO.out AT.out.blk hm_); have MV_ := Ak (MV.out.trans hm_); have AT_ := Ak hat_; have HP_ := Ak hq_; clear AT MV HO HP2 hq_ hat_ hm_; have AT := AT_; have MV := MV_; have HO := HO_; have HP2 := HP_; clear AT_ MV_ HO_ HP_) | (go_at_call 61; have hcc := take_calls _ w.heap.size _ out s x n HO.out MV.out.size HXX.out.1 HXX.out.2 HN.out HOL.out; rw [HTM.out] at hcc; refine hcc.mono ?_; clear hcc; rintro e w' ⟨v2, rfl, ho_, hb_, _⟩; have AT_ := Ak (AT.out.onB (blk_lt HX.out.blk) HX.out.below.size hb_); have MV_ := Ak (MV.out.onB hb_); clear AT MV HO; have AT := AT_; have MV := MV_; have HO := Ak ho_; clear AT_ MV_ ho_ hb_) )
    go_roundg k1
    case measure => omega
    case rel => exact ⟨p3, out2, AT, MV, HO, HP2, HTO, HRR, ⟨by have h1 := HSB.out; have h2 := HB3.out; have h3 := HK.out; omega⟩⟩
end
end Go.Proofs.YtgflkkjhckcipaaDoor.Pr

-- YtgflkkjhckcipaaDoorIf19
namespace Go.Proofs.YtgflkkjhckcipaaDoor.Pr
open Go.RowKit Go.Shelf Go.Proofs.YtgflkkjhckcipaaDoorW.PrintWords Go.Proofs.YtgflkkjhckcipaaDoorW.PrintLast Go.Proofs.YtgflkkjhckcipaaDoorW.PrintMore
set_option linter.unusedVariables false
set_option linter.unusedSimpArgs false
section
attribute [local go_sem] Oper.semAt_some
theorem assert_errno (v : Value) (w : World) : Sem.run Tryd.prog (Instr.typeAssert (.iface 24 v) 20 24 true) w = .ok (.tuple #[v, .bool true]) w := by
  simp [Instr.typeAssert, Tryd.underlying24, go_sem]
attribute [local go_sem] assert_errno
theorem hcatch (a b c d : Nat) (ha : Value) (hb hc hd : Value) (er : Int) (older : List PanicEntry) (w : World) (hne : a ≠ b ∧ a ≠ c ∧ a ≠ d ∧ b ≠ c ∧ b ≠ d ∧ c ≠ d)
    (h0 : w.cell? ⟨a, 0, none⟩ = some ha) (h1 : w.cell? ⟨b, 0, none⟩ = some hb) (h2 : w.cell? ⟨c, 0, none⟩ = some hc) (h3 : w.cell? ⟨d, 0, none⟩ = some hd)
    (f0 : w.frozen? ⟨a, 0, none⟩ = false) (f1 : w.frozen? ⟨b, 0, none⟩ = false) (f2 : w.frozen? ⟨c, 0, none⟩ = false) (f3 : w.frozen? ⟨d, 0, none⟩ = false) :
    CallsD Tryd.prog 45 #[.pointer (some ⟨a, 0, none⟩), .pointer (some ⟨b, 0, none⟩), .pointer (some ⟨c, 0, none⟩), .pointer (some ⟨d, 0, none⟩)] (.panicking ({ v := .iface 24 (.int .i64 er), recovered := false } :: older)) w fun e u' w' =>
      e = .returned (.tuple #[]) ∧ u' = .panicking ({ v := .iface 24 (.int .i64 er), recovered := true } :: older) ∧ w' = (((w.setCell ⟨a, 0, none⟩ (.slice none 0 0)).setCell ⟨b, 0, none⟩ (.slice none 0 0)).setCell ⟨c, 0, none⟩ (.int .i64 0)).setCell ⟨d, 0, none⟩ (.int .i64 er) := by
  refine callsD_of_wpS Tryd.func45 rfl fun c₀ cs hu => ?_
  apply wpS_seq
  apply wpS_region
  simp [wpOpsS, go_sem, recoverD, hu, Tryd.ntmps45, Exit.thenS]
  apply wpS_of_wp
  change Code.wp _ _ _ ⟨#[.pointer (some ⟨a, 0, none⟩), .pointer (some ⟨b, 0, none⟩), .pointer (some ⟨c, 0, none⟩), .pointer (some ⟨d, 0, none⟩), .iface 24 (.int .i64 er), undef, undef, .iface 24 (.int .i64 er), undef, undef, undef, undef, undef, undef, undef, undef, undef, undef, undef], []⟩ _
  go_wp2
  simp [bodyPostS, results, Tryd.results45]
theorem hidle (a b c d : Nat) (w : World) :
    CallsD Tryd.prog 45 #[.pointer (some ⟨a, 0, none⟩), .pointer (some ⟨b, 0, none⟩), .pointer (some ⟨c, 0, none⟩), .pointer (some ⟨d, 0, none⟩)] .returning w fun e u' w' => e = .returned (.tuple #[]) ∧ u' = .returning ∧ w' = w := by
  refine callsD_of_wpS Tryd.func45 rfl fun c₀ cs hu => ?_
  apply wpS_seq
  apply wpS_region
  simp [wpOpsS, go_sem, recoverD, hu, Tryd.ntmps45, Exit.thenS]
  apply wpS_of_wp
  change Code.wp _ _ _ ⟨#[.pointer (some ⟨a, 0, none⟩), .pointer (some ⟨b, 0, none⟩), .pointer (some ⟨c, 0, none⟩), .pointer (some ⟨d, 0, none⟩), .nilIface, undef, undef, .nilIface, undef, undef, undef, undef, undef, undef, undef, undef, undef, undef, undef], []⟩ _
  go_wp2
  cases c₀
  simp_all [bodyPostS, results, Tryd.results45]
end
end Go.Proofs.YtgflkkjhckcipaaDoor.Pr

