-- Texts by hand and by programs of this session, joined (wip/tool/merge.py).
import Derived.Shelf.Abstract
import Derived.Shelf.RegionOpen
import Derived.OwnWalkIn
import Derived.TacticsInMore
import Derived.LoopNIn
import Derived.LoopIn
import Derived.Test.YtgflkkjhckcipaaGreatDoorMID21
import Derived.Test.YtgflkkjhckcipaaGreatDoorMID14
-- YtgflkkjhckcipaaGreatDoorIf50
set_option maxHeartbeats 16000000
set_option maxRecDepth 1000000
namespace Go.Proofs.YtgflkkjhckcipaaGreatDoor.Pr
open Go.RowKit Go.Shelf Go.Proofs.YtgflkkjhckcipaaGreatDoorW.PrintWords Go.Proofs.YtgflkkjhckcipaaGreatDoorW.PrintLast Go.Proofs.YtgflkkjhckcipaaGreatDoorW.PrintMore
set_option linter.unusedVariables false
set_option linter.unusedSimpArgs false
open Go.Proofs.YtgflkkjhckcipaaGreatDoor.Pv
section
attribute [local go_sem] Oper.semAt_some
theorem rowC_okl {z t : List Int} {cd : Nat} (h : RowC z cd) (e : rowC z = some t) : OKL t := by
  unfold rowC at e; split at e
  · cases e
  next ha =>
  injection e with e
  subst e; exact (h.tbl (by simpa using ha)).1
theorem ssymbols_told {w0 : World} {A : Option Addr} {c : Nat} {l : List Int} (hr : RowOk w0 A c l) (w : World) (g p : Nat) (v : Value) (out : List Int) (most : Int) (H : StAt w0 w g A c l (NN l) (p : Int) v out most) (hp : p ≤ 8 * l.length) (hm0 : (out.length : Int) ≤ most) (hm1 : most ≤ 65536) (Al : Option Addr) (cl : Nat) (lit : List Int) (hl : RowAt w Al lit) (hlz : RowC lit cl) (hlt : Tbl lit) (Ad : Option Addr) (cd : Nat) (dist : List Int) (hd : RowAt w Ad dist) (hdz : RowC dist cd) (k : Nat) (hk : 8 * l.length - p < k) :
    Calls Tryz.prog 25 #[.pointer (some ⟨g, 0, none⟩), .slice Al lit.length cl, .slice Ad dist.length cd] w fun e w' => ToldS w0 w g A c l v most e w' (symbolsM l most lit (rowC dist) k p out) := by
  have HR := Ak hr; have HX := Ak H; have AT := Ak H; have MV := Ak (Moved.of_below g v (Below.refl w.heap.size w)); have HP := Ak hp; have huR := Tryz.underlying48; have huB := Tryz.underlying43; have HM0 := Ak hm0; have HM1 := Ak hm1; have HL := Ak hl; have HLZ := Ak hlz; have HT := Ak hlt; have HD := Ak hd; have HDZ := Ak hdz; have HK := Ak hk; obtain ⟨R, hR⟩ : ∃ R, symbolsM l most lit (rowC dist) k p out = R := ⟨_, rfl⟩; rw [hR]; have hRR := hR; clear hR; have HRR := Ak hRR; clear H hr hp hm0 hm1 hl hlz hlt hd hdz hk hRR; go_enter Tryz.func25, Tryz.ntmps25; go_wp2
  go_loopg [] k (fun kq w' => ∃ (p' : Nat) (ys : List Int) (v1 : Value), Aside0 (StAt w0 w' g A c l (NN l) (p' : Int) v1 ys most) ∧ Aside0 (Moved w w' g v v1) ∧ Aside0 (RowAt w' Al lit) ∧ Aside0 (RowAt w' Ad dist) ∧ Aside0 (p' ≤ 8 * l.length) ∧ Aside0 ((ys.length : Int) ≤ most) ∧ Aside0 (symbolsM l most lit (rowC dist) kq p' ys = R) ∧ Aside0 (8 * l.length - p' < kq))
  case atStart => exact ⟨p, out, v, AT, MV, HL, HD, HP, HM0, HRR, HK⟩
  case round =>
    clear AT MV HL HD HP HM0 HRR HK; obtain ⟨p0, ys, v1, AT, MV, HL, HD, HP, HM0, HRR, HK⟩ := hrel; obtain ⟨A1, c1, rfl⟩ := Kd.R_slice AT.out.row; have hRR := HRR.out; clear HRR
    cases gk with
    | zero => exact absurd HK.out (by omega)
    | succ k1 => ?_
    rw [symbolsM] at hRR
    cases h1 : symM l (some lit) p0 with
    | error er =>
      rw [h1] at hRR; have HRR := Ak hRR.symm; have H1 := Ak h1; clear h1 hRR
      go_wp2_with (go_at_call 37; have hcc := ssym_told HR.out _ g _ (.slice A1 ys.length c1) ys most AT.out HP.out Al cl lit HL.out.C HLZ.out.cap HT.out; rw [H1.out] at hcc; refine hcc.mono ?_; clear hcc; rintro e w' ⟨rfl, hb, hne_⟩; have qe_ := eq_false hne_; have qeb_ := bne_iff_ne.2 hne_; have HNE := Ak hne_; clear hne_)
      go_ret; rw [HRR.out]; exact ⟨rfl, (HX.out.between AT.out MV.out.size).trans hb, HNE.out⟩
    | ok r1 => ?_
    obtain ⟨s, p1⟩ := r1; have hsb := symM_ok HT.out.1 HP.out h1; rw [h1] at hRR; dsimp only at hRR; have H1 := Ak h1; have HKK := HK.out; clear h1
    by_cases hs : s = 256
    · rw [if_pos hs] at hRR; have HRR := Ak hRR.symm; have q0 := eq_true hs
      have q0b : (s == 256) = true := by rw [hs]; rfl
      subst hs; clear hRR hsb HKK
      go_wp2_with (go_at_call 37; have hcc := ssym_told HR.out _ g _ (.slice A1 ys.length c1) ys most AT.out HP.out Al cl lit HL.out.C HLZ.out.cap HT.out; rw [H1.out] at hcc; refine hcc.mono ?_; clear hcc; rintro e w' ⟨rfl, hq_, hat_, hm_⟩; replace MV := Ak (MV.out.trans hm_); replace HP := Ak hq_; replace HL := Ak (HL.out.smoved AT.out hm_); replace HD := Ak (HD.out.smoved AT.out hm_); replace AT := Ak hat_; clear hat_ hm_ hq_; clear H1)
      go_ret; rw [HRR.out]; exact ⟨rfl, HP.out, _, AT.out, MV.out⟩
    rw [if_neg hs] at hRR; have q0 := eq_false hs; have q0b : (s == 256) = false := beq_eq_false_iff_ne.mpr hs
    by_cases hg : s > 256
    · rw [if_pos hg] at hRR; have q1 := eq_true (show (256 : Int) < s from hg); have q1b : decide ((256 : Int) < s) = true := decide_eq_true hg; have HS := Ak (And.intro hsb.1 hsb.2.1)
      cases h2 : copiedM l most (rowC dist) s p1 ys with
      | error er =>
        rw [h2] at hRR; have HRR := Ak hRR.symm; have H2 := Ak h2; clear h2 hRR hsb HKK hs hg
        go_wp2_with (first | (go_at_call 37; have hcc := ssym_told HR.out _ g _ (.slice A1 ys.length c1) ys most AT.out HP.out Al cl lit HL.out.C HLZ.out.cap HT.out; rw [H1.out] at hcc; refine hcc.mono ?_; clear hcc; rintro e w' ⟨rfl, hq_, hat_, hm_⟩; replace MV := Ak (MV.out.trans hm_); replace HP := Ak hq_; replace HL := Ak (HL.out.smoved AT.out hm_); replace HD := Ak (HD.out.smoved AT.out hm_); replace AT := Ak hat_; clear hat_ hm_ hq_; clear H1) | (go_at_call 38; have hcc := scopied_told HR.out _ g p1 (.slice A1 ys.length c1) ys most AT.out HP.out HM0.out HM1.out s HS.out.1 HS.out.2 Ad cd dist HD.out HDZ.out; rw [H2.out] at hcc; refine hcc.mono ?_; clear hcc; rintro e w' ⟨rfl, hb, hne_⟩; have qe_ := eq_false hne_; have qeb_ := bne_iff_ne.2 hne_; have HNE := Ak hne_; clear hne_))
        go_ret; rw [HRR.out]; exact ⟨rfl, (HX.out.between AT.out MV.out.size).trans hb, HNE.out⟩
      | ok r2 => ?_
      obtain ⟨p2, zs⟩ := r2; have hcb := copiedM_ok (fun t e => rowC_okl HDZ.out e) h2; rw [h2] at hRR; dsimp only at hRR; have HRR := Ak hRR; have HCB := Ak hcb; have HKN := Ak (show 8 * l.length - p2 < k1 by omega); have H2 := Ak h2; clear h2 hRR hsb HKK hs hg hcb
      go_wp2_with (first | (go_at_call 37; have hcc := ssym_told HR.out _ g _ (.slice A1 ys.length c1) ys most AT.out HP.out Al cl lit HL.out.C HLZ.out.cap HT.out; rw [H1.out] at hcc; refine hcc.mono ?_; clear hcc; rintro e w' ⟨rfl, hq_, hat_, hm_⟩; replace MV := Ak (MV.out.trans hm_); replace HP := Ak hq_; replace HL := Ak (HL.out.smoved AT.out hm_); replace HD := Ak (HD.out.smoved AT.out hm_); replace AT := Ak hat_; clear hat_ hm_ hq_; clear H1) | (go_at_call 38; have hcc := scopied_told HR.out _ g p1 (.slice A1 ys.length c1) ys most AT.out HP.out HM0.out HM1.out s HS.out.1 HS.out.2 Ad cd dist HD.out HDZ.out; rw [H2.out] at hcc; refine hcc.mono ?_; clear hcc; rintro e w' ⟨rfl, hq_, v2, hat_, hm_⟩; replace MV := Ak (MV.out.trans hm_); replace HP := Ak hq_; replace HL := Ak (HL.out.smoved AT.out hm_); replace HD := Ak (HD.out.smoved AT.out hm_); replace AT := Ak hat_; clear hat_ hm_ hq_; clear H2))
      go_roundg k1
      case measure => omega
      case rel => exact ⟨p2, zs, _, AT, MV, HL, HD, HP, ⟨HCB.out.2.2⟩, HRR, HKN⟩
    rw [if_neg hg] at hRR; have q1 := eq_false (show ¬ (256 : Int) < s from hg); have q1b : decide ((256 : Int) < s) = false := decide_eq_false hg
    by_cases hrm : 1 > most - (ys.length : Int)
    · rw [if_pos hrm] at hRR; have HRR := Ak hRR.symm; have q11 := eq_true (show most ≤ (ys.length : Int) by omega); clear hRR hsb HKK hs hg hrm
      go_upto_region 11 with (go_at_call 37; have hcc := ssym_told HR.out _ g _ (.slice A1 ys.length c1) ys most AT.out HP.out Al cl lit HL.out.C HLZ.out.cap HT.out; rw [H1.out] at hcc; refine hcc.mono ?_; clear hcc; rintro e w' ⟨rfl, hq_, hat_, hm_⟩; replace MV := Ak (MV.out.trans hm_); replace HP := Ak hq_; replace HL := Ak (HL.out.smoved AT.out hm_); replace HD := Ak (HD.out.smoved AT.out hm_); replace AT := Ak hat_; clear hat_ hm_ hq_; clear H1)
      replace AT := Ak (AT.out.on (below_drew (Below.refl _ _))); replace MV := Ak (MV.out.trans (Moved.of_below g _ (below_drew (Below.refl _ _)))); replace HL := Ak (HL.out.on (below_drew (Below.refl _ _))); replace HD := Ak (HD.out.on (below_drew (Below.refl _ _))); refine sq 11 (S := fun w' => w'.cell? ⟨g, 3, none⟩ = some ((.slice A1 ys.length c1)) ∧ w'.cell? ⟨g, 4, none⟩ = some (.int .i64 most)) (ds := []) ⟨(blk_cell AT.out.blk 3).trans rfl, (blk_cell AT.out.blk 4).trans rfl⟩ fun hHeld => ?_; generalize w'.drew = wd at AT MV HL HD hHeld ⊢; refine pq 0 44 ?_; refine pq 1 45 ?_; refine pq 2 46 ?_; refine pq 5 49 ?_; refine pq 6 50 ?_; refine pq 7 51 ?_; refine tq 3 47 ?_ hHeld; refine pq 4 48 ?_; refine tq 8 52 ?_ hHeld; refine pq 9 53 ?_; refine pq 10 43 ?_; refine dq ?_; clear hHeld; go_wp2; go_ret; rw [HRR.out]; exact ⟨rfl, HX.out.between AT.out MV.out.size, by decide⟩
    rw [if_neg hrm] at hRR; have HRR := Ak hRR; have q11 := eq_false (show ¬ most ≤ (ys.length : Int) by omega)
    have hu8 : IntKind.u8.wrap s = s := by rw [IntKind.wrap_u8]; omega
    have hu8b : s % 256 = s := by omega
    have HKN := Ak (show 8 * l.length - p1 < k1 by omega); have HM2 := Ak (show ((ys ++ [s]).length : Int) ≤ most by rw [List.length_append, List.length_singleton]; omega); have HYL := Ak (show ys.length ≤ 70000 by have := HM0.out; have := HM1.out; omega); clear hRR hsb HKK hs hg hrm
    go_upto_region 11 with (go_at_call 37; have hcc := ssym_told HR.out _ g _ (.slice A1 ys.length c1) ys most AT.out HP.out Al cl lit HL.out.C HLZ.out.cap HT.out; rw [H1.out] at hcc; refine hcc.mono ?_; clear hcc; rintro e w' ⟨rfl, hq_, hat_, hm_⟩; replace MV := Ak (MV.out.trans hm_); replace HP := Ak hq_; replace HL := Ak (HL.out.smoved AT.out hm_); replace HD := Ak (HD.out.smoved AT.out hm_); replace AT := Ak hat_; clear hat_ hm_ hq_; clear H1)
    replace AT := Ak (AT.out.on (below_drew (Below.refl _ _))); replace MV := Ak (MV.out.trans (Moved.of_below g _ (below_drew (Below.refl _ _)))); replace HL := Ak (HL.out.on (below_drew (Below.refl _ _))); replace HD := Ak (HD.out.on (below_drew (Below.refl _ _))); refine sq 11 (S := fun w' => w'.cell? ⟨g, 3, none⟩ = some ((.slice A1 ys.length c1)) ∧ w'.cell? ⟨g, 4, none⟩ = some (.int .i64 most)) (ds := []) ⟨(blk_cell AT.out.blk 3).trans rfl, (blk_cell AT.out.blk 4).trans rfl⟩ fun hHeld => ?_; generalize w'.drew = wd at AT MV HL HD hHeld ⊢; refine pq 0 44 ?_; refine pq 1 45 ?_; refine pq 2 46 ?_; refine pq 5 49 ?_; refine pq 6 50 ?_; refine pq 7 51 ?_; refine tq 3 47 ?_ hHeld; refine pq 4 48 ?_; refine tq 8 52 ?_ hHeld; refine pq 9 53 ?_; refine pq 10 43 ?_; refine dq ?_; clear hHeld; have hc3 : wd.cell? ⟨g, 3, none⟩ = some (.slice A1 ys.length c1) := (blk_cell AT.out.blk 3).trans rfl; have hf3 := blk_frozen AT.out.blk 3
    go_wp2_with ((with_reducible refine gate_builtin (b := .append) (xs := #[.tmp 23, .tmp 26]) rfl ?_); at_builtin; refine Kd.R_append (Kd.int .u8) (w0 := w0) w0.heap.size rfl (.tmp 23) (.tmp 26) 22 5 (.int .u8 0) 1 rfl Tryz.underlying22 Hu.info5 rfl (by decide) (by omega) (.slice A1 ys.length c1) ys s [.int .u8 s] (fun _ => True) (fun _ => False) rfl rfl ?aP (fun _ hk => hk.elim) ?aF ?aO ?aB ?aS ?aL ?_; (case aP => exact rfl); (case aF => exact (fun _ _ => trivial)); (case aO => exact AT.out.row); (case aB => exact AT.out.below); (case aS => exact AT.out.below.size); (case aL => have := HYL.out; omega); intro v3 w6 ho hb hg hat; obtain ⟨zs, hzs⟩ : ∃ zs, zs = ys ++ [s] := ⟨_, rfl⟩; rw [← hzs] at ho; have HZS := Ak hzs; clear hzs; obtain ⟨A3, c3, ev⟩ := Kd.R_slice ho; subst ev; have hap0 := AT.out.appended ho hb hg hat; have AP := Ak hap0; have hc3b : w6.cell? ⟨g, 3, none⟩ = some (.slice A1 ys.length c1) := (blk_cell (blk_grown AT.out.blk hg (Kd.R_ne AT.out.row AT.out.blk (by decide))) 3).trans rfl; have hf3b := blk_frozen (blk_grown AT.out.blk hg (Kd.R_ne AT.out.row AT.out.blk (by decide))) 3; clear hap0 ho hb hg hat hc3 hf3)
    go_roundg k1
    case measure => omega
    case rel => exact ⟨p1, zs, _, ⟨AP.out.1⟩, ⟨MV.out.trans AP.out.2⟩, ⟨HL.out.smoved AT.out AP.out.2⟩, ⟨HD.out.smoved AT.out AP.out.2⟩, HP, ⟨by rw [HZS.out]; exact HM2.out⟩, ⟨by rw [HZS.out]; exact HRR.out⟩, HKN⟩
end
-- YtgflkkjhckcipaaGreatDoorIf51
section
attribute [local go_sem] Oper.semAt_some
theorem rtake_calls (w : World) (b0 : Nat) (v : Value) (out : List Int) (s x : Int) (n : Nat) (hO : (Kd.int .i64).R 3 w b0 (fun _ => True) v out) (hb0 : b0 ≤ w.heap.size) (hx0 : 0 ≤ x) (hx1 : x ≤ 1000) (hn : n ≤ 1000) (hon : out.length ≤ n) :
    Calls Tryz.prog 61 #[v, .agg #[.int .i64 s, .int .i64 x], .int .i64 (n : Int)] w fun e w' => TakeIs w b0 v e w' (takeM out s x n) := by
  obtain ⟨A0, c0, rfl⟩ := Kd.R_slice hO; rw [takeM_eq]; have huRun := Tryz.underlying127; have HO := Ak hO; have HS := Ak hb0; have HX := Ak (And.intro hx0 hx1); have HN := Ak hn; have HON := Ak hon; have BT := blk_new w (.cells #[.int .i64 s, .int .i64 x] 127 (0, 0)); have HB1 := Ak (below_alloc (Below.refl w.heap.size w) (.cells #[.int .i64 s, .int .i64 x] 127 (0, 0))); have hc0 : (w.alloc (.cells #[.int .i64 s, .int .i64 x] 127 (0, 0))).cell? ⟨w.heap.size, 0, none⟩ = some (.int .i64 s) := (blk_cell BT 0).trans rfl; have hc1 : (w.alloc (.cells #[.int .i64 s, .int .i64 x] 127 (0, 0))).cell? ⟨w.heap.size, 1, none⟩ = some (.int .i64 x) := (blk_cell BT 1).trans rfl; clear hO hb0 hx0 hx1 hn hon
  by_cases h0 : s = 16 ∧ out.length = 0
  · rw [if_pos h0]; obtain ⟨h0, h1⟩ := h0; subst h0
    have q0 : ((out.length : Int) == 0) = true := by rw [h1]; rfl
    have q1 := eq_true (show (out.length : Int) = 0 by omega); have q2 := eq_true h1; have HBB := HB1; clear h1 BT; go_enter Tryz.func61, Tryz.ntmps61; go_wp2; go_ret2; exact ⟨rfl, HB1.out, by decide⟩
  rw [if_neg h0]; obtain ⟨M, hM⟩ : ∃ M, M = (if takeN s x > n - out.length then (.error 3 : Except Int (List Int)) else .ok (out ++ List.replicate (takeN s x) (takeV out s))) := ⟨_, rfl⟩; rw [← hM]; have HM := Ak hM; clear hM; go_enter Tryz.func61, Tryz.ntmps61; have q16 : s = 16 → ((out.length : Int) == 0) = false := fun h => beq_eq_false_iff_ne.mpr (fun e => h0 ⟨h, by omega⟩); have H0 := Ak h0; clear h0
  go_upto_region 1 with (fail)
  go_cut [18] from 8 (fun v18 w' => v18 = .bool false ∧ Aside0 (w' = (w.alloc (.cells #[.int .i64 s, .int .i64 x] 127 (0, 0)))))
  case first =>
    by_cases hs : s = 16
    · have q2 := q16 hs; have h4 : ¬ (out.length : Int) = 0 := beq_eq_false_iff_ne.mp q2; have q3 := eq_false h4; have q4 := eq_false (show ¬ out.length = 0 by omega); clear h4; subst hs; go_wp2
      go_meet
      case rel => exact ⟨rfl, ⟨rfl⟩⟩
    have q0 := eq_false hs; have q0b : (s == 16) = false := beq_eq_false_iff_ne.mpr hs; go_wp2
    go_meet
    case rel => exact ⟨rfl, ⟨rfl⟩⟩
  case rest =>
    obtain ⟨rfl, ⟨rfl⟩⟩ := hcut; clear q16
    go_upto_region 3 with (fail)
    have BT_ := blk_below BT (below_drew (Below.refl _ _)); have HF := Ak (below_drew HB1.out); clear hc0 hc1 BT HB1; have BT := BT_; clear BT_; refine sq 4 (S := fun w' => w'.cell? ⟨w.heap.size, 0, none⟩ = some (.int .i64 s)) (ds := []) ((blk_cell BT 0).trans rfl) fun hHeld => ?_; generalize (w.alloc (.cells #[.int .i64 s, .int .i64 x] 127 (0, 0))).drew = wd at BT HF hHeld ⊢; refine pq 0 19 ?_; refine pq 2 8 ?_; refine tq 1 20 ?_ hHeld; refine pq 3 9 ?_; refine dq ?_; clear hHeld; have hc0 : wd.cell? ⟨w.heap.size, 0, none⟩ = some (.int .i64 s) := (blk_cell BT 0).trans rfl; have hc1 : wd.cell? ⟨w.heap.size, 1, none⟩ = some (.int .i64 x) := (blk_cell BT 1).trans rfl
    go_upto_block 0 with (fail)
    go_cut [8, 9] from 10 (fun v8 v9 w' => v9 = .int .i64 (takeV out s) ∧ v8 = .int .i64 ((takeN s x : Nat) : Int) ∧ Aside0 (Below w.heap.size w w'))
    case first =>
      by_cases hs : s = 16
      · subst hs; have hne : out.length ≠ 0 := fun e => H0.out ⟨rfl, e⟩; have q3 := eq_true (show 0 < (out.length : Int) by omega); have q3b := eq_true (show 0 < out.length by omega); have hN := HN.out; have hON := HON.out; obtain ⟨j, hj⟩ : ∃ j, j = out.length - 1 := ⟨_, rfl⟩; obtain ⟨ad, ead, hcell⟩ := Kd.at_int (Kd.R_reads' HO.out).2.2 ((j : Nat) : Int) (by omega) (by omega); subst ead; rw [Int.toNat_natCast, rd_nat] at hcell; obtain ⟨b, hb0⟩ : ∃ b, b = out.getD j 0 := ⟨_, rfl⟩; rw [← hb0] at hcell
        have hwj : wrap64 ((out.length : Int) - 1) = (j : Int) := by rw [wrap64_id (by omega) (by omega)]; omega
        have pj := eq_true (show 0 ≤ (j : Int) by omega); have qj := eq_true (show (j : Int) < (out.length : Int) by omega)
        have hvb : takeV out 16 = b := by unfold takeV; rw [if_pos rfl, hb0, hj]
        have HVB := Ak hvb; have HC := pw_cell_below HF.out hcell; clear hcell hb0 hj hne hvb hN hON H0
        have hw3 : wrap64 (3 + x) = ((takeN 16 x : Nat) : Int) := by have := HX.out; rw [show takeN 16 x = 3 + x.toNat from rfl, wrap64_id (by omega) (by omega)]; omega
        have HW3 := Ak hw3; clear hw3; go_wp2
        go_meet
        case rel => exact ⟨by rw [HVB.out], by rw [← HW3.out], HF⟩
      have q0 := eq_false hs; have q0b : (s == 16) = false := beq_eq_false_iff_ne.mpr hs
      by_cases h17 : s = 17
      · subst h17
        have hw3 : wrap64 (3 + x) = ((takeN 17 x : Nat) : Int) := by have := HX.out; rw [show takeN 17 x = 3 + x.toNat from rfl, wrap64_id (by omega) (by omega)]; omega
        have HW3 := Ak hw3; clear hw3 hs; go_wp2
        go_meet
        case rel => exact ⟨rfl, by rw [← HW3.out], HF⟩
      have q1 := eq_false h17; have q1b : (s == 17) = false := beq_eq_false_iff_ne.mpr h17
      by_cases h18 : s = 18
      · subst h18
        have hw3 : wrap64 (11 + x) = ((takeN 18 x : Nat) : Int) := by have := HX.out; rw [show takeN 18 x = 11 + x.toNat from rfl, wrap64_id (by omega) (by omega)]; omega
        have HW3 := Ak hw3; clear hw3 hs h17; go_wp2
        go_meet
        case rel => exact ⟨rfl, by rw [← HW3.out], HF⟩
      have q2 := eq_false h18; have q2b : (s == 18) = false := beq_eq_false_iff_ne.mpr h18
      have hv : takeV out s = s := by unfold takeV; rw [if_neg hs, if_neg h17, if_neg h18]
      have hn : takeN s x = 1 := by unfold takeN; rw [if_neg hs, if_neg h17, if_neg h18]
      have HV := Ak hv; have HNN := Ak hn; clear hv hn hs h17 h18; go_wp2
      go_meet
      case rel => exact ⟨by rw [HV.out], by rw [HNN.out]; rfl, HF⟩
    case rest =>
      obtain ⟨rfl, rfl, HB⟩ := hcut; clear HF hc0 hc1 BT H0; have HR := Ak (Kd.R_below HO.out HB.out); have MV := Ak (RMoved.of_below (.slice A0 out.length c0) HB.out); have HBB := Ak (HB.out.mono HS.out); obtain ⟨tv, htv⟩ : ∃ tv, tv = takeV out s := ⟨_, rfl⟩; obtain ⟨tn, htn⟩ : ∃ tn, tn = takeN s x := ⟨_, rfl⟩; obtain ⟨rm, hrm⟩ : ∃ rm, rm = n - out.length := ⟨_, rfl⟩
      have hwr : wrap64 ((n : Int) - (out.length : Int)) = (rm : Int) := by have := HN.out; have := HON.out; rw [wrap64_id (by omega) (by omega)]; omega
      have HRM := Ak hrm; have hM := HM.out; rw [← htv, ← htn, ← hrm] at hM; clear HM; rw [← htv, ← htn]; clear htv htn hrm
      by_cases hgt : tn > rm
      · rw [if_pos hgt] at hM; have HM := Ak hM; clear hM; have q0 := eq_true (show (rm : Int) < (tn : Int) by omega); have q0b := decide_eq_true (show (rm : Int) < (tn : Int) by omega); clear hgt; go_wp2; go_ret2; rw [HM.out]; exact ⟨rfl, HB.out, by decide⟩
      rw [if_neg hgt] at hM; have HM := Ak hM; clear hM; have q0 := eq_false (show ¬ (rm : Int) < (tn : Int) by omega); have q0b := decide_eq_false (show ¬ (rm : Int) < (tn : Int) by omega); have HTN := Ak (show tn ≤ rm by omega); clear hgt
      go_upto_region 15 with (fail)
      clear hwr; go_wp2
      go_loopw [0, 10] (fun v0 v55 w' => ∃ (k : Nat) (ys : List Int), v55 = .int .i64 (k : Int) ∧ Aside0 (ys = out ++ List.replicate k tv) ∧ Aside0 ((Kd.int .i64).R 3 w' b0 (fun _ => True) v0 ys) ∧ Aside0 (Below b0 w w') ∧ Aside0 (RMoved w w' (.slice A0 out.length c0) v0) ∧ Aside0 (k ≤ tn)) (fun _ v _ => tn - (intOf v).toNat)
      case atStart => exact ⟨0, out, rfl, ⟨by rw [List.replicate_zero, List.append_nil]⟩, HR, HBB, MV, ⟨Nat.zero_le _⟩⟩
      case round =>
        clear HR HBB MV; obtain ⟨k, ys, rfl, HY, HR, HBB, MV, HK⟩ := hrel
        by_cases hk : k < tn
        · have q1 := eq_true (show (k : Int) < (tn : Int) by omega); have q1b := decide_eq_true (show (k : Int) < (tn : Int) by omega); have HKL := Ak hk; have HYL := Ak (show ys.length ≤ 3000 by have e := HY.out; have := HTN.out; have := HRM.out; have := HN.out; rw [e, List.length_append, List.length_replicate]; omega)
          have hst : ys ++ [tv] = out ++ List.replicate (k + 1) tv := by rw [HY.out, List.replicate_succ', List.append_assoc]
          have HST := Ak hst; obtain ⟨A1, c1, rfl⟩ := Kd.R_slice HR.out; clear hk hst
          go_wp2_with ((with_reducible refine gate_builtin (b := .append) (xs := #[.tmp 58, .tmp 60]) rfl ?_); at_builtin; refine Kd.R_append (Kd.int .i64) (w0 := w) b0 rfl (.tmp 58) (.tmp 60) 68 3 (.int .i64 0) 8 rfl Tryz.underlying68 Hu.info3 rfl (by decide) (by omega) (.slice A1 ys.length c1) ys tv [.int .i64 tv] (fun _ => True) (fun _ => False) rfl rfl ?aP (fun _ hk => hk.elim) ?aF ?aO ?aB ?aS ?aL ?_; (case aP => exact rfl); (case aF => exact (fun _ _ => trivial)); (case aO => exact HR.out); (case aB => exact HBB.out); (case aS => exact Nat.le_trans HS.out HBB.out.size); (case aL => have := HYL.out; omega); intro v3 w6 ho hb hg hat; obtain ⟨zs, hzs⟩ : ∃ zs, zs = ys ++ [tv] := ⟨_, rfl⟩; rw [← hzs] at ho; have HZS := Ak hzs; clear hzs; have MV_ := Ak (MV.out.trans (RMoved.grown hg hat)); clear HR HBB MV; have HR := Ak ho; have HBB := Ak hb; have MV := MV_; clear MV_ ho hb hg hat)
          go_roundw
          case rel => exact ⟨k + 1, zs, val_next _ (by have := HKL.out; have := HTN.out; have := HRM.out; have := HN.out; omega), ⟨by rw [HZS.out, HST.out]⟩, HR, HBB, MV, ⟨HKL.out⟩⟩
          case measure => rw [nat_next _ (by have := HKL.out; have := HTN.out; have := HRM.out; have := HN.out; omega)]; simp only [intOf, Int.toNat_natCast]; have := HKL.out; omega
        obtain rfl : k = tn := by have := HK.out; omega
        have q1 := eq_false (show ¬ (k : Int) < (k : Int) by omega); have q1b := decide_eq_false (show ¬ (k : Int) < (k : Int) by omega); clear hk; go_wp2; go_ret2; rw [HM.out]; exact ⟨_, rfl, by rw [← HY.out]; exact HR.out, HBB.out, MV.out⟩
end
-- YtgflkkjhckcipaaGreatDoorIf52
theorem bitsM_four {l : List Int} {p n : Nat} {er : Int} (h : bitsM l p n = .error er) : er = 4 := by
  unfold bitsM at h; split at h
  · cases h
  injection h with h
  exact h.symm
def widS : List Int := [5, 5, 4]
def widN : List Nat := [5, 5, 4]
theorem widS_at {i : Nat} (h : i < 3) : rd widS (i : Int) = ((widN.getD i 0 : Nat) : Int) ∧ widN.getD i 0 ≤ 5 := (by decide : ∀ i : Fin 3, rd widS ((i.val : Nat) : Int) = ((widN.getD i.val 0 : Nat) : Int) ∧ widN.getD i.val 0 ≤ 5) ⟨i, h⟩
def cntM (l : List Int) : Nat → Nat → Nat → List Int → Except Int (List Int × Nat)
  | 0, _, p, cs => .ok (cs, p)
  | d + 1, i, p, cs => match bitsM l p (widN.getD i 0) with
    | .error e => .error e
    | .ok (x, p1) => if i = 1 ∧ (cs.getD 0 0 + 257 > 286 ∨ x + 1 > 30) then .error 3 else cntM l d (i + 1) p1 (cs ++ [x])
theorem headerM_cnt (l : List Int) (k p : Nat) : headerM l k p = match cntM l 3 0 p [] with
    | .error e => .error e
    | .ok (cs, p3) => match codesM l (4 + (cs.getD 2 0).toNat) 0 p3 (List.replicate 19 0) with
      | .error e => .error e
      | .ok (z, p4) => match lengthsM l z (257 + (cs.getD 0 0).toNat + (1 + (cs.getD 1 0).toNat)) k p4 [] with
        | .error e => .error e
        | .ok (all, p5) => .ok (all.take (257 + (cs.getD 0 0).toNat), all.drop (257 + (cs.getD 0 0).toNat), p5) := by
  unfold headerM; rw [cntM, show widN.getD 0 0 = 5 from rfl]
  cases bitsM l p 5 with
  | error e => rfl
  | ok r1 => ?_
  obtain ⟨x, p1⟩ := r1; dsimp only; rw [if_neg (by omega), cntM, show widN.getD (0 + 1) 0 = 5 from rfl]
  cases bitsM l p1 5 with
  | error e => rfl
  | ok r2 => ?_
  obtain ⟨y, p2⟩ := r2; dsimp only; have e : ([] ++ [x] : List Int).getD 0 0 = x := rfl; rw [e]
  by_cases h : 257 + x > 286 ∨ 1 + y > 30
  · rw [if_pos h, if_pos (by omega)]
  rw [if_neg h, if_neg (by omega), cntM, show widN.getD (0 + 1 + 1) 0 = 4 from rfl]
  cases bitsM l p2 4 with
  | error e => rfl
  | ok r3 => ?_
  obtain ⟨q, p3⟩ := r3; dsimp only; rw [if_neg (by omega)]
  rfl
theorem rread_sym {l z : List Int} (hb : Byt l) (hl : l.length ≤ 1000000) (hT : Tbl z) {p : Nat} (hp : p ≤ 8 * l.length) : ∃ k r1 r2 r3, valiseref04_Read.f k z l (NN l) (p : Int) = some (r1, r2, r3) ∧ ((r3 = 0 ∧ ∃ q : Nat, r2 = (q : Int) ∧ symM l (some z) p = .ok (r1, q)) ∨ (r3 ≠ 0 ∧ symM l (some z) p = .error r3)) := by
  obtain ⟨k, hk⟩ := refRead_eq (l := z) (b := l) (n := NN l) ((p : Nat) : Int) hT hb (by omega) (by unfold NN; omega) (by unfold NN; omega); have hf := hk k (Nat.le_refl _); unfold readS at hf; rw [if_pos ⟨okR_whole hb, by omega, by unfold NN; omega⟩, Int.toNat_natCast] at hf; unfold NN at hf; rw [Int.toNat_natCast] at hf; have hs := scan_place z l (8 * l.length) 15 p 0 (by omega) hp; rw [show symM l (some z) p = (if (scan z l (8 * l.length) 15 p 0).2.2 = 0 then .ok ((scan z l (8 * l.length) 15 p 0).1, (scan z l (8 * l.length) 15 p 0).2.1.toNat) else .error (scan z l (8 * l.length) 15 p 0).2.2) from rfl]; generalize scan z l (8 * l.length) 15 p 0 = r at *; obtain ⟨r1, r2, r3⟩ := r; refine ⟨k, r1, r2, r3, hf, ?_⟩; dsimp only at hs ⊢
  by_cases h0 : r3 = 0
  · obtain ⟨q, e2, h4, h5⟩ := hs h0; exact .inl ⟨h0, q, e2, by rw [if_pos h0, e2, Int.toNat_natCast]⟩
  exact .inr ⟨h0, by rw [if_neg h0]⟩
theorem rextra_eq (s : Int) : valiseref08_Extra.f s = some ((extraN s : Nat) : Int) := by
  unfold valiseref08_Extra.f extraN
  split
  · rfl
  split
  · rfl
  split <;> rfl
theorem rcodes_l0 {l : List Int} (hb : Byt l) (hl : l.length ≤ 1000000) (n : Nat) (hn : n ≤ 19) : ∀ d i p z, i + d = n → p ≤ 8 * l.length → z.length = 19 →
    ∃ z' p' er, Ev (fun k => valiseref08_codes.l0 k (p : Int) (n : Int) z orderI (i : Int) l (NN l)) (z', p', er) ∧ match codesM l d i p z with | .ok (z2, q) => er = 0 ∧ z' = z2 ∧ p' = ((q : Nat) : Int) | .error e2 => er = e2
  | 0, i, p, z, hi, hp, hz => by
    obtain ⟨K, hK⟩ := refNew_eq z; refine ⟨z, p, Hu.newS z, ⟨K + 1, fun k hk => ?_⟩, ?_⟩
    · obtain ⟨k, rfl⟩ : ∃ m, k = m + 1 := ⟨k - 1, by omega⟩
      show valiseref08_codes.l0 (k + 1) _ _ _ _ _ _ _ = _
      rw [valiseref08_codes.l0, if_neg (by omega), show valiseref04_New.f k z = some (Hu.newS z) from hK k (by omega)]
      rfl
    · unfold codesM
      split
      · next h =>
        split at h
        · next hz => injection h with h; injection h with h1 h2; exact ⟨hz, h1, by rw [h2]⟩
        · cases h
      · next h =>
        split at h
        · cases h
        · injection h
  | d + 1, i, p, z, hi, hp, hz => by
    have hi19 : i < 19 := by omega
    obtain ⟨ho, ho2⟩ := orderI_at hi19; unfold codesM; have hg := refGet_eq (k := 40) (Nat.le_refl _) (l := l) (n := NN l) (a := (p : Int)) (c := ((3 : Nat) : Int)) hb (by omega) (by unfold NN; omega) (by unfold NN; omega)
    have hg' : ∀ k, 40 ≤ k → valiseref01_Get.f k l (NN l) (p : Int) 3 = some (if p + 3 ≤ 8 * l.length then (getV l p 3, 0) else (0, 4)) := fun k hk => by
      have := refGet_eq hk (l := l) (n := NN l) (a := (p : Int)) (c := ((3 : Nat) : Int)) hb (by omega) (by unfold NN; omega) (by unfold NN; omega); rw [getS_at hb hp (by decide)] at this; exact this
    unfold bitsM
    by_cases h : p + 3 ≤ 8 * l.length
    · rw [if_pos h]; dsimp only; obtain ⟨z', p', er, ⟨K, hK⟩, hm⟩ := rcodes_l0 hb hl n hn d (i + 1) (p + 3) (z.set (orderL.getD i 0) (getV l p 3)) (by omega) h (by rw [List.length_set]; exact hz); refine ⟨z', p', er, ⟨K + 41, fun k hk => ?_⟩, hm⟩; obtain ⟨k, rfl⟩ : ∃ m, k = m + 1 := ⟨k - 1, by omega⟩
      show valiseref08_codes.l0 (k + 1) _ _ _ _ _ _ _ = _
      rw [valiseref08_codes.l0, if_pos (by omega), hg' k (by omega), if_pos h]; simp only [Option.bind_some]; rw [if_pos trivial, if_pos (by omega), if_pos (show (i : Int) < ((orderI.length : Nat) : Int) by show (i : Int) < 19; omega), ho, if_pos (by omega), if_pos (by omega), Int.toNat_natCast, wrap64_id (by omega) (by omega), wrap64_id (by omega) (by omega)]; exact hK k (by omega)
    · rw [if_neg h]; refine ⟨[], 0, 4, ⟨41, fun k hk => ?_⟩, rfl⟩; obtain ⟨k, rfl⟩ : ∃ m, k = m + 1 := ⟨k - 1, by omega⟩
      show valiseref08_codes.l0 (k + 1) _ _ _ _ _ _ _ = _
      rw [valiseref08_codes.l0, if_pos (by omega), hg' k (by omega), if_neg h]
      rfl
theorem rcodes_eq {l : List Int} (hb : Byt l) (hl : l.length ≤ 1000000) {n p : Nat} (hn : n ≤ 19) (hp : p ≤ 8 * l.length) : ∃ k z' p' er, valiseref08_codes.f k l (NN l) (p : Int) (n : Int) = some (z', p', er) ∧ match codesM l n 0 p (List.replicate 19 0) with | .ok (z2, q) => er = 0 ∧ z' = z2 ∧ p' = ((q : Nat) : Int) | .error e2 => er = e2 := by
  obtain ⟨z', p', er, ⟨K, hK⟩, hm⟩ := rcodes_l0 hb hl n hn n 0 p (List.replicate 19 0) (by omega) hp (by simp); refine ⟨K, z', p', er, ?_, hm⟩; unfold valiseref08_codes.f; rw [if_pos (by decide)]; exact hK K (Nat.le_refl _)
theorem lengthsM_nn {l z : List Int} (hz : OKL z) {n : Nat} : ∀ {k p : Nat} {out all : List Int} {p' : Nat}, p ≤ 8 * l.length → (∀ x ∈ out, 0 ≤ x) → lengthsM l z n k p out = .ok (all, p') → ∀ x ∈ all, 0 ≤ x
  | 0, p, out, all, p', hp, ho, h => by cases h
  | k + 1, p, out, all, p', hp, ho, h => by
    unfold lengthsM at h; split at h
    · cases hs : symM l (some z) p with
      | error e => rw [hs] at h; cases h
      | ok r =>
        obtain ⟨s, p1⟩ := r; have hso := symM_ok hz hp hs; rw [hs] at h; dsimp only at h
        cases hx : bitsM l p1 (extraN s) with
        | error e => rw [hx] at h; cases h
        | ok r2 =>
          obtain ⟨x, p2⟩ := r2; have hbo := bitsM_ok hx; rw [hx] at h; dsimp only at h
          cases ht : takeM out s x n with
          | error e => rw [ht] at h; cases h
          | ok o2 =>
            rw [ht] at h; refine lengthsM_nn hz (p := p2) (by omega) (fun y hy => ?_) h; rw [takeM_eq] at ht; split at ht
            · cases ht
            · split at ht
              · cases ht
              · injection ht with ht
                subst ht
                rcases List.mem_append.1 hy with hy | hy
                · exact ho y hy
                · rw [List.eq_of_mem_replicate hy]; unfold takeV
                  split
                  · rw [List.getD_eq_getElem?_getD]
                    cases hg : out[out.length - 1]? with
                    | none => exact Int.le_refl _
                    | some v => exact ho v (List.mem_of_getElem? hg)
                  · split
                    · exact Int.le_refl _
                    · split
                      · exact Int.le_refl _
                      · exact hso.1
    · injection h with h
      injection h with h1 h2
      subst h1; exact ho
theorem cntM_ok {l : List Int} : ∀ {d i p : Nat} {cs cs' : List Int} {p' : Nat}, p ≤ 8 * l.length → (∀ x ∈ cs, 0 ≤ x ∧ x < 32) → i + d = 3 → cs.length = i → cntM l d i p cs = .ok (cs', p') → p' ≤ 8 * l.length ∧ (∀ x ∈ cs', 0 ≤ x ∧ x < 32) ∧ cs'.length = 3 ∧ p ≤ p'
  | 0, i, p, cs, cs', p', hp, hc, hi, hl, h => by
    injection h with h
    injection h with h1 h2
    subst h1 h2; exact ⟨hp, hc, by omega, Nat.le_refl _⟩
  | d + 1, i, p, cs, cs', p', hp, hc, hi, hl, h => by
    unfold cntM at h
    cases hb : bitsM l p (widN.getD i 0) with
    | error e => rw [hb] at h; cases h
    | ok r =>
      obtain ⟨x, p1⟩ := r; obtain ⟨hx, hp1, hp2⟩ := bitsM_ok hb; rw [hb] at h; dsimp only at h; split at h
      · cases h
      · have hr := getV_range l p (widN.getD i 0)
        have hw : (widN.getD i 0) ≤ 5 := by
          exact (widS_at (by omega)).2
        have h2 : (2 : Int) ^ (widN.getD i 0) ≤ 2 ^ 5 := pow_le2 hw; have := cntM_ok (by omega) (fun y hy => (List.mem_append.1 hy).elim (hc y) (fun h => by rw [List.mem_singleton.1 h, hx]; omega)) (by omega) (by rw [List.length_append, List.length_singleton, hl]) h; exact ⟨this.1, this.2.1, this.2.2.1, by omega⟩
end Go.Proofs.YtgflkkjhckcipaaGreatDoor.Pr

