-- Texts by hand and by programs of this session, joined (wip/tool/merge.py).
import Derived.Shelf.Abstract
import Derived.Shelf.RegionOpen
import Derived.OwnWalkIn
import Derived.TacticsInMore
import Derived.LoopNIn
import Derived.LoopIn
import Derived.Test.YtgflkkjhckcipaaDoorMIC10
-- YtgflkkjhckcipaaDoorIf10
set_option maxHeartbeats 16000000
set_option maxRecDepth 1000000
namespace Go.Proofs.YtgflkkjhckcipaaDoor.Pr
open Go.RowKit Go.Shelf Go.Proofs.YtgflkkjhckcipaaDoorW.PrintWords Go.Proofs.YtgflkkjhckcipaaDoorW.PrintLast Go.Proofs.YtgflkkjhckcipaaDoorW.PrintMore
set_option linter.unusedVariables false
set_option linter.unusedSimpArgs false
section
attribute [local go_sem] Oper.semAt_some
theorem stored_told {w0 : World} {A : Option Addr} {c : Nat} {l : List Int} (hr : RowOk w0 A c l) (w : World) (g p : Nat) (v : Value) (out : List Int) (most : Int) (H : RdrAt w0 w g A c l (NN l) (p : Int) v out most) (hp : p ≤ 8 * l.length) (hm0 : (out.length : Int) ≤ most) (hm1 : most ≤ 65536) :
    Calls Tryd.prog 27 #[.pointer (some ⟨g, 0, none⟩)] w fun e w' => ToldO w0 w g A c l v most e w' (storedM l most p out) := by
  have hlen := hr.len
  obtain ⟨Ao, co, rfl⟩ := Kd.R_slice H.row
  have hX := andNot7 p (by omega)
  rw [wrap64_id (by omega) (by omega)] at hX
  have hw7 : wrap64 ((p : Int) + 7) = (p : Int) + 7 := wrap64_id (by omega) (by omega)
  obtain ⟨p1, hp1⟩ : ∃ p1, (p + 7) / 8 * 8 = p1 := ⟨_, rfl⟩
  have hp1b : p1 ≤ 8 * l.length := by omega
  unfold storedM
  rw [hp1] at hX ⊢
  have HR := Ak hr
  have HX := Ak H
  have AT := Ak H
  have MV := Ak (Moved.of_below g (.slice Ao out.length co) (Below.refl w.heap.size w))
  have huR := Tryd.underlying51
  have huB := Tryd.underlying35
  have HM0 := Ak hm0
  have HM1 := Ak hm1
  cases h1 : bitsM l p1 16 with
  | error er =>
    have H1 := Ak h1
    clear h1
    go_enter Tryd.func27, Tryd.ntmps27
    obtain ⟨hc2, hf2, hc3, hf3⟩ := rdr_c2 AT.out
    clear hc3 hf3
    go_upto_region 1 with (fail)
    have AT_ := Ak (AT.out.setAt (p1 : Int))
    have MV_ := Ak (MV.out.set_ 2 (.int .i64 (p1 : Int)))
    clear AT MV hc2 hf2
    have AT := AT_
    have MV := MV_
    clear AT_ MV_
    have HP := Ak hp1b
    clear hp1b
    generalize w.setCell ⟨g, 2, none⟩ (.int .i64 (p1 : Int)) = w1 at *
    go_wp2_with (go_at_call 26; have hcc := rbits_told' HR.out _ g p1 16 16 rfl (.slice Ao out.length co) out most AT.out HP.out (by decide); rw [H1.out] at hcc; refine hcc.mono ?_; clear hcc; rintro e w' ⟨pp, rfl, hfa, hb⟩)
    exact ⟨rfl, pp, rfl, hfa, (HX.out.between AT.out MV.out.size).trans hb⟩
  | ok r1 => ?_
  obtain ⟨x, p2⟩ := r1
  dsimp only
  obtain ⟨hxv, hp2, hp2b⟩ := bitsM_ok h1
  have hxb := getV_bound l p1 16 (by decide)
  have hxr := getV_range l p1 16
  rw [← hxv] at hxb hxr
  have hx16 : x < 65536 := hxr.2
  have H1 := Ak h1
  clear h1 hxv
  cases h2 : bitsM l p2 16 with
  | error er =>
    have H2 := Ak h2
    clear h2 hxb hxr hx16 hp2 hp2b
    go_enter Tryd.func27, Tryd.ntmps27
    obtain ⟨hc2, hf2, hc3, hf3⟩ := rdr_c2 AT.out
    clear hc3 hf3
    go_upto_region 1 with (fail)
    have AT_ := Ak (AT.out.setAt (p1 : Int))
    have MV_ := Ak (MV.out.set_ 2 (.int .i64 (p1 : Int)))
    clear AT MV hc2 hf2
    have AT := AT_
    have MV := MV_
    clear AT_ MV_
    have HP := Ak hp1b
    clear hp1b
    generalize w.setCell ⟨g, 2, none⟩ (.int .i64 (p1 : Int)) = w1 at *
    go_wp2_with (first | (go_at_call 26; have hcc := rbits_told' HR.out _ g p1 16 16 rfl (.slice Ao out.length co) out most AT.out HP.out (by decide); rw [H1.out] at hcc; refine hcc.mono ?_; clear hcc; rintro e w' ⟨rfl, hq_, hat_, hm_⟩; have AT_ := Ak hat_; have MV_ := Ak (MV.out.trans hm_); have HP_ := Ak hq_; clear AT MV HP hat_ hm_ hq_; have AT := AT_; have MV := MV_; have HP := HP_; clear AT_ MV_ HP_; clear H1) | (go_at_call 26; have hcc := rbits_told' HR.out _ g p2 16 16 rfl (.slice Ao out.length co) out most AT.out HP.out (by decide); rw [H2.out] at hcc; refine hcc.mono ?_; clear hcc; rintro e w' ⟨pp, rfl, hfa, hb⟩) )
    exact ⟨rfl, pp, rfl, hfa, (HX.out.between AT.out MV.out.size).trans hb⟩
  | ok r2 => ?_
  obtain ⟨y, p3⟩ := r2
  obtain ⟨hyv, hp3, hp3b⟩ := bitsM_ok h2
  have H2 := Ak h2
  clear h2 hyv
  have hxo := xor16 x hxb.1 hx16
  dsimp only
  by_cases hne : y ≠ 65535 - x
  · rw [if_pos hne]
    have q0 : (y != 65535 - x) = true := bne_iff_ne.2 hne
    clear hxb hxr hx16 hp2 hp2b hp3 hp3b hne
    go_enter Tryd.func27, Tryd.ntmps27
    obtain ⟨hc2, hf2, hc3, hf3⟩ := rdr_c2 AT.out
    clear hc3 hf3
    go_upto_region 1 with (fail)
    have AT_ := Ak (AT.out.setAt (p1 : Int))
    have MV_ := Ak (MV.out.set_ 2 (.int .i64 (p1 : Int)))
    clear AT MV hc2 hf2
    have AT := AT_
    have MV := MV_
    clear AT_ MV_
    have HP := Ak hp1b
    clear hp1b
    generalize w.setCell ⟨g, 2, none⟩ (.int .i64 (p1 : Int)) = w1 at *
    go_wp2_with (first | (go_at_call 26; have hcc := rbits_told' HR.out _ g p1 16 16 rfl (.slice Ao out.length co) out most AT.out HP.out (by decide); rw [H1.out] at hcc; refine hcc.mono ?_; clear hcc; rintro e w' ⟨rfl, hq_, hat_, hm_⟩; have AT_ := Ak hat_; have MV_ := Ak (MV.out.trans hm_); have HP_ := Ak hq_; clear AT MV HP hat_ hm_ hq_; have AT := AT_; have MV := MV_; have HP := HP_; clear AT_ MV_ HP_; clear H1) | (go_at_call 26; have hcc := rbits_told' HR.out _ g p2 16 16 rfl (.slice Ao out.length co) out most AT.out HP.out (by decide); rw [H2.out] at hcc; refine hcc.mono ?_; clear hcc; rintro e w' ⟨rfl, hq_, hat_, hm_⟩; have AT_ := Ak hat_; have MV_ := Ak (MV.out.trans hm_); have HP_ := Ak hq_; clear AT MV HP hat_ hm_ hq_; have AT := AT_; have MV := MV_; have HP := HP_; clear AT_ MV_ HP_; clear H2) | (go_at_call 30; refine (stop_calls 5 _).mono ?_; rintro e w' ⟨pp, rfl, hfa, hb⟩) )
    exact ⟨rfl, pp, rfl, hfa, (HX.out.between AT.out MV.out.size).trans (hb.mono AT.out.below.size)⟩
  rw [if_neg hne]
  have hy : y = 65535 - x := Decidable.not_not.1 hne
  have q0 : (y != 65535 - x) = false := by rw [hy]; exact bne_self_eq_false _
  clear hne
  by_cases hrm : x > most - (out.length : Int)
  · rw [if_pos hrm]
    have HRm := Ak hrm
    clear hxb hxr hx16 hp2 hp2b hp3 hp3b hrm hy
    go_enter Tryd.func27, Tryd.ntmps27
    obtain ⟨hc2, hf2, hc3, hf3⟩ := rdr_c2 AT.out
    clear hc3 hf3
    go_upto_region 1 with (fail)
    have AT_ := Ak (AT.out.setAt (p1 : Int))
    have MV_ := Ak (MV.out.set_ 2 (.int .i64 (p1 : Int)))
    clear AT MV hc2 hf2
    have AT := AT_
    have MV := MV_
    clear AT_ MV_
    have HP := Ak hp1b
    clear hp1b
    generalize w.setCell ⟨g, 2, none⟩ (.int .i64 (p1 : Int)) = w1 at *
    go_wp2_with (first | (go_at_call 26; have hcc := rbits_told' HR.out _ g p1 16 16 rfl (.slice Ao out.length co) out most AT.out HP.out (by decide); rw [H1.out] at hcc; refine hcc.mono ?_; clear hcc; rintro e w' ⟨rfl, hq_, hat_, hm_⟩; have AT_ := Ak hat_; have MV_ := Ak (MV.out.trans hm_); have HP_ := Ak hq_; clear AT MV HP hat_ hm_ hq_; have AT := AT_; have MV := MV_; have HP := HP_; clear AT_ MV_ HP_; clear H1) | (go_at_call 26; have hcc := rbits_told' HR.out _ g p2 16 16 rfl (.slice Ao out.length co) out most AT.out HP.out (by decide); rw [H2.out] at hcc; refine hcc.mono ?_; clear hcc; rintro e w' ⟨rfl, hq_, hat_, hm_⟩; have AT_ := Ak hat_; have MV_ := Ak (MV.out.trans hm_); have HP_ := Ak hq_; clear AT MV HP hat_ hm_ hq_; have AT := AT_; have MV := MV_; have HP := HP_; clear AT_ MV_ HP_; clear H2) | (go_at_call 36; refine (room_full HR.out _ g _ (.slice Ao out.length co) out most x AT.out HM0.out HM1.out HRm.out).mono ?_; rintro e w' ⟨pp, rfl, hfa, hb⟩) )
    exact ⟨rfl, pp, rfl, hfa, (HX.out.between AT.out MV.out.size).trans hb⟩
  rw [if_neg hrm]
  have HRm := Ak hrm
  have HP3 := Ak hp3b
  have HX16 := Ak (And.intro hxb.1 hx16)
  clear hrm hy
  by_cases hsh : (8 * l.length - p3) / 8 < x.toNat
  · rw [if_pos hsh]
    have q5 := eq_true (show wrap64 (8 * (l.length : Int) - (p3 : Int)) / 8 < x by rw [wrap64_id (by omega) (by omega)]; omega)
    clear hxb hxr hx16 hp2 hp2b hp3 hp3b hsh
    go_enter Tryd.func27, Tryd.ntmps27
    obtain ⟨hc2, hf2, hc3, hf3⟩ := rdr_c2 AT.out
    clear hc3 hf3
    go_upto_region 1 with (fail)
    have AT_ := Ak (AT.out.setAt (p1 : Int))
    have MV_ := Ak (MV.out.set_ 2 (.int .i64 (p1 : Int)))
    clear AT MV hc2 hf2
    have AT := AT_
    have MV := MV_
    clear AT_ MV_
    have HP := Ak hp1b
    clear hp1b
    generalize w.setCell ⟨g, 2, none⟩ (.int .i64 (p1 : Int)) = w1 at *
    go_upto_region 5 with (first | (go_at_call 26; have hcc := rbits_told' HR.out _ g p1 16 16 rfl (.slice Ao out.length co) out most AT.out HP.out (by decide); rw [H1.out] at hcc; refine hcc.mono ?_; clear hcc; rintro e w' ⟨rfl, hq_, hat_, hm_⟩; have AT_ := Ak hat_; have MV_ := Ak (MV.out.trans hm_); have HP_ := Ak hq_; clear AT MV HP hat_ hm_ hq_; have AT := AT_; have MV := MV_; have HP := HP_; clear AT_ MV_ HP_; clear H1) | (go_at_call 26; have hcc := rbits_told' HR.out _ g p2 16 16 rfl (.slice Ao out.length co) out most AT.out HP.out (by decide); rw [H2.out] at hcc; refine hcc.mono ?_; clear hcc; rintro e w' ⟨rfl, hq_, hat_, hm_⟩; have AT_ := Ak hat_; have MV_ := Ak (MV.out.trans hm_); have HP_ := Ak hq_; clear AT MV HP hat_ hm_ hq_; have AT := AT_; have MV := MV_; have HP := HP_; clear AT_ MV_ HP_; clear H2) | (go_at_call 36; refine (room_ok HR.out _ g _ (.slice Ao out.length co) out most x AT.out HM0.out HM1.out (by have := HRm.out; omega)).mono ?_; rintro e w' ⟨rfl, hb⟩; have AT_ := Ak (AT.out.on hb); have MV_ := Ak (MV.out.trans (Moved.of_below g _ hb)); clear AT MV hb; have AT := AT_; have MV := MV_; clear AT_ MV_; clear HRm) )
    have AT_ := Ak (AT.out.on (below_drew (Below.refl _ _)))
    have MV_ := Ak (MV.out.trans (Moved.of_below g _ (below_drew (Below.refl _ _))))
    clear AT MV
    have AT := AT_
    have MV := MV_
    clear AT_ MV_
    refine start_ (n := 13) (S := fun w' => w'.cell? ⟨g, 1, none⟩ = some (.int .i64 (NN l)) ∧ w'.cell? ⟨g, 2, none⟩ = some (.int .i64 (p3 : Int))) (ds := []) #[false, false, false, false, false, false, false, false, false, false, false, false, false] (by kernel_rfl) rfl rfl ⟨(blk_cell AT.out.blk 1).trans rfl, (blk_cell AT.out.blk 2).trans rfl⟩ (fun hHeld => ?_)
    generalize w'.drew = wd at AT MV hHeld ⊢
    refine pq_ (i := 0) (N := some 23) ?_
    refine pq_ (i := 1) (N := some 24) ?_
    refine pq_ (i := 2) (N := some 25) ?_
    refine pq_ (i := 3) (N := some 26) ?_
    refine pq_ (i := 5) (N := some 28) ?_
    refine pq_ (i := 6) (N := some 29) ?_
    refine pq_ (i := 7) (N := some 30) ?_
    refine pq_ (i := 11) (N := some 34) ?_
    refine tq_ (i := 4) (N := some 27) ?_ hHeld
    refine tq_ (i := 8) (N := some 31) ?_ hHeld
    refine pq_ (i := 9) (N := some 32) ?_
    refine pq_ (i := 10) (N := some 33) ?_
    refine pq_ (i := 12) (N := some 35) ?_
    refine done_ (by kernel_rfl) ?_
    go_wp2_with (go_at_call 30; refine (stop_calls 4 _).mono ?_; rintro e w' ⟨pp, rfl, hfa, hb⟩)
    exact ⟨rfl, pp, rfl, hfa, (HX.out.between AT.out MV.out.size).trans (hb.mono AT.out.below.size)⟩
  rw [if_neg hsh]
  have q5 := eq_false (show ¬ wrap64 (8 * (l.length : Int) - (p3 : Int)) / 8 < x by rw [wrap64_id (by omega) (by omega)]; omega)
  have hle : p3 / 8 + x.toNat ≤ l.length := by omega
  obtain ⟨i0, hi0, _, hsz0, _⟩ := info_parts Hu.info5
  have hd8 : ((p3 : Int) / 8).toNat = p3 / 8 := by omega
  have hcutA := cut_from (P := Tryd.prog) 22 5 .i64 Tryd.underlying22 hi0 1 hsz0 A l.length c ((p3 : Int) / 8) (by omega) (by omega)
  rw [hd8] at hcutA
  have hcd := Kd.C_drop (m := p3 / 8) (c := c) hr.C (by omega) hr.cap
  have hlt : ((l.drop (p3 / 8)).take x.toNat).length = x.toNat := by rw [List.length_take, List.length_drop]; omega
  have hct := Kd.C_take (m := x.toNat) hcd (by rw [List.length_drop]; omega)
  rw [hlt] at hct
  obtain ⟨A2, hA2⟩ : ∃ A2, A2 = (if c = p3 / 8 then A else A.map (·.add (p3 / 8 * 1))) := ⟨_, rfl⟩
  replace hct : Kd.C (Kd.int .u8) w0 A2 x.toNat ((l.drop (p3 / 8)).take x.toNat) := by rw [hA2]; exact hct
  rw [← hA2] at hcutA
  have hcutB := cut_to (P := Tryd.prog) 22 5 .i64 Tryd.underlying22 hi0 A2 (l.length - p3 / 8) (c - p3 / 8) x (by omega) (by omega) (by have := hr.cap; omega)
  have HC2 := Ak hct
  obtain ⟨p4, hp4⟩ : ∃ p4, p4 = p3 + 8 * x.toNat := ⟨_, rfl⟩
  rw [← hp4]
  have HX8 := Ak (show wrap64 ((p3 : Int) + wrap64 (8 * x)) = (p4 : Int) by rw [wrap64_id (x := 8 * x) (by omega) (by omega), wrap64_id (by omega) (by omega)]; omega)
  have HLE := Ak (show p4 ≤ 8 * l.length by omega)
  clear hxb hxr hx16 hp2 hp2b hp3 hp3b hsh hct hcd hA2 hle hlt hd8 hsz0 hp4
  go_enter Tryd.func27, Tryd.ntmps27
  obtain ⟨hc2, hf2, hc3, hf3⟩ := rdr_c2 AT.out
  clear hc3 hf3
  go_upto_region 1 with (fail)
  have AT_ := Ak (AT.out.setAt (p1 : Int))
  have MV_ := Ak (MV.out.set_ 2 (.int .i64 (p1 : Int)))
  clear AT MV hc2 hf2
  have AT := AT_
  have MV := MV_
  clear AT_ MV_
  have HP := Ak hp1b
  clear hp1b
  generalize w.setCell ⟨g, 2, none⟩ (.int .i64 (p1 : Int)) = w1 at *
  go_upto_region 5 with (first | (go_at_call 26; have hcc := rbits_told' HR.out _ g p1 16 16 rfl (.slice Ao out.length co) out most AT.out HP.out (by decide); rw [H1.out] at hcc; refine hcc.mono ?_; clear hcc; rintro e w' ⟨rfl, hq_, hat_, hm_⟩; have AT_ := Ak hat_; have MV_ := Ak (MV.out.trans hm_); have HP_ := Ak hq_; clear AT MV HP hat_ hm_ hq_; have AT := AT_; have MV := MV_; have HP := HP_; clear AT_ MV_ HP_; clear H1) | (go_at_call 26; have hcc := rbits_told' HR.out _ g p2 16 16 rfl (.slice Ao out.length co) out most AT.out HP.out (by decide); rw [H2.out] at hcc; refine hcc.mono ?_; clear hcc; rintro e w' ⟨rfl, hq_, hat_, hm_⟩; have AT_ := Ak hat_; have MV_ := Ak (MV.out.trans hm_); have HP_ := Ak hq_; clear AT MV HP hat_ hm_ hq_; have AT := AT_; have MV := MV_; have HP := HP_; clear AT_ MV_ HP_; clear H2) | (go_at_call 36; refine (room_ok HR.out _ g _ (.slice Ao out.length co) out most x AT.out HM0.out HM1.out (by have := HRm.out; omega)).mono ?_; rintro e w' ⟨rfl, hb⟩; have AT_ := Ak (AT.out.on hb); have MV_ := Ak (MV.out.trans (Moved.of_below g _ hb)); clear AT MV hb; have AT := AT_; have MV := MV_; clear AT_ MV_; clear HRm) )
  have AT_ := Ak (AT.out.on (below_drew (Below.refl _ _)))
  have MV_ := Ak (MV.out.trans (Moved.of_below g _ (below_drew (Below.refl _ _))))
  clear AT MV
  have AT := AT_
  have MV := MV_
  clear AT_ MV_
  refine start_ (n := 13) (S := fun w' => w'.cell? ⟨g, 1, none⟩ = some (.int .i64 (NN l)) ∧ w'.cell? ⟨g, 2, none⟩ = some (.int .i64 (p3 : Int))) (ds := []) #[false, false, false, false, false, false, false, false, false, false, false, false, false] (by kernel_rfl) rfl rfl ⟨(blk_cell AT.out.blk 1).trans rfl, (blk_cell AT.out.blk 2).trans rfl⟩ (fun hHeld => ?_)
  generalize w'.drew = wd at AT MV hHeld ⊢
  refine pq_ (i := 0) (N := some 23) ?_
  refine pq_ (i := 1) (N := some 24) ?_
  refine pq_ (i := 2) (N := some 25) ?_
  refine pq_ (i := 3) (N := some 26) ?_
  refine pq_ (i := 5) (N := some 28) ?_
  refine pq_ (i := 6) (N := some 29) ?_
  refine pq_ (i := 7) (N := some 30) ?_
  refine pq_ (i := 11) (N := some 34) ?_
  refine tq_ (i := 4) (N := some 27) ?_ hHeld
  refine tq_ (i := 8) (N := some 31) ?_ hHeld
  refine pq_ (i := 9) (N := some 32) ?_
  refine pq_ (i := 10) (N := some 33) ?_
  refine pq_ (i := 12) (N := some 35) ?_
  refine done_ (by kernel_rfl) ?_
  go_upto_region 7 with (fail)
  have BG := Ak AT.out.blk
  have AT_ := Ak (AT.out.on (below_drew (Below.refl _ _)))
  have MV_ := Ak (MV.out.trans (Moved.of_below g _ (below_drew (Below.refl _ _))))
  clear AT MV
  have AT := AT_
  have MV := MV_
  clear AT_ MV_
  have BG_ := Ak (blk_drew BG.out)
  clear BG
  have BG := BG_
  clear BG_
  refine start_ (n := 22) (S := fun w' => w'.cell? ⟨g, 0, none⟩ = some (.slice A l.length c) ∧ w'.cell? ⟨g, 2, none⟩ = some (.int .i64 (p3 : Int)) ∧ w'.cell? ⟨g, 3, none⟩ = some ((.slice Ao out.length co))) (ds := [21]) #[false, false, false, false, false, false, false, false, false, false, false, false, false, false, false, false, false, false, false, false, false, false] (by kernel_rfl) rfl rfl ⟨(blk_cell BG.out 0).trans rfl, (blk_cell BG.out 2).trans rfl, (blk_cell BG.out 3).trans rfl⟩ (fun hHeld => ?_)
  generalize wd.drew = we at AT MV BG hHeld ⊢
  refine pq_ (i := 0) (N := some 37) ?_
  refine pq_ (i := 1) (N := some 38) ?_
  refine pq_ (i := 2) (N := some 39) ?_
  refine pq_ (i := 3) (N := some 40) ?_
  refine pq_ (i := 5) (N := some 42) ?_
  refine pq_ (i := 6) (N := some 43) ?_
  refine pq_ (i := 7) (N := some 44) ?_
  refine pq_ (i := 8) (N := some 45) ?_
  refine pq_ (i := 10) (N := some 47) ?_
  refine pq_ (i := 11) (N := some 48) ?_
  refine pq_ (i := 12) (N := some 49) ?_
  refine pq_ (i := 16) (N := some 53) ?_
  refine tq_ (i := 4) (N := some 41) ?_ hHeld
  refine tq_ (i := 9) (N := some 46) ?_ hHeld
  refine tq_ (i := 13) (N := some 50) ?_ hHeld
  refine pq_ (i := 14) (N := some 51) ?_
  refine pq_ (i := 15) (N := some 52) ?_
  refine pq_ (i := 17) (N := some 54) ?_
  refine one_ (i := 18) (N := some 55) #[true, true, true, true, true, true, true, true, true, true, true, true, true, true, true, true, true, true, true, false, false, false] rfl rfl (by kernel_rfl) (by decide) (fun K hK => ?_)
  refine Kd.R_append_rows_step (Kd.int .u8) (w0 := w0) w0.heap.size (by rfl) (.tmp 41) (.tmp 54) 22 5 (.int .u8 0) 1 rfl Tryd.underlying22 Hu.info5 rfl (by decide) (by omega) (.slice Ao out.length co) out ((l.drop (p3 / 8)).take x.toNat) _ _ _ (fun _ => True) (fun _ => False) rfl rfl AT.out.row (Kd.C_below HC2.out AT.out.below) (fun _ _ h => h) (fun _ h => h.elim) (fun _ _ => trivial) AT.out.below AT.out.below.size ?aL ?_
  (case aL => have h1_ := HM0.out; have h2_ := HM1.out; have h3_ := HX16.out; omega)
  intro v1 w6 ho hb hg hat
  obtain ⟨ys, hys⟩ : ∃ ys, ys = out ++ (l.drop (p3 / 8)).take x.toNat := ⟨_, rfl⟩
  rw [← hys] at ho
  have HYS := Ak hys
  clear hys
  obtain ⟨A1, c1, ev⟩ := Kd.R_slice ho
  subst ev
  have hap := AT.out.appended ho hb hg hat
  have hbg := blk_grown BG.out hg (Kd.R_ne AT.out.row AT.out.blk (by decide))
  replace BG := Ak (hbg)
  replace AP := Ak (hap)
  clear hbg hap ho hb hg hat
  refine hK.out _ _ ⟨(blk_cell BG.out 0).trans rfl, (blk_cell BG.out 2).trans rfl, (blk_cell BG.out 3).trans rfl⟩ (fun hHeld => ?_)
  clear hK K
  refine norm_ (a' := ?_) ?_ ?_
  rotate_left
  · show Act.put _ (some 55) _ = _
    simp only [Act.put, List.setIfInBounds_toArray, List.set_cons_zero, List.set_cons_succ, i64_w, i32_w, u8_w]
    rfl
  refine pq_ (i := 19) (N := some 56) ?_
  refine pq_ (i := 20) (N := some 57) ?_
  refine last_ (i := 21) (N := none) #[true, true, true, true, true, true, true, true, true, true, true, true, true, true, true, true, true, true, true, true, true, true] rfl rfl (by kernel_rfl) (by decide) (fun K hK => ?_)
  have hz := ((blk_cell BG.out 3).trans rfl : w6.cell? ⟨g, 3, none⟩ = some (.slice Ao out.length co))
  have hf := blk_frozen BG.out 3
  refine skip_ (w1 := ?_) (by rfl) rfl ?_ ?_
  rotate_left
  · go_simp
    rfl
  refine hK.out _ _ ?_
  clear hK K
  refine done_ (by kernel_rfl) ?_
  clear hz hf hHeld BG
  generalize w6.setCell ⟨g, 3, none⟩ (.slice A1 ys.length c1) = w7 at AP ⊢
  obtain ⟨hc2, hf2, hc3, hf3⟩ := rdr_c2 AP.out.1
  clear hc3 hf3
  have hx8 := HX8.out
  go_wp2
  go_end0
  rw [← HYS.out]
  exact ⟨rfl, HLE.out, _, AP.out.1.setAt _, (MV.out.trans AP.out.2).set_ 2 _⟩
end
end Go.Proofs.YtgflkkjhckcipaaDoor.Pr

-- YtgflkkjhckcipaaDoorIf12
namespace Go.Proofs.YtgflkkjhckcipaaDoor.Pr
open Go.RowKit Go.Shelf Go.Proofs.YtgflkkjhckcipaaDoorW.PrintWords Go.Proofs.YtgflkkjhckcipaaDoorW.PrintLast Go.Proofs.YtgflkkjhckcipaaDoorW.PrintMore
set_option linter.unusedVariables false
set_option linter.unusedSimpArgs false
theorem symsS_bound (z : List Int) (i : Int) (hz : 1 ≤ z.length) : 0 ≤ rd (Hu.symsS z) i ∧ rd (Hu.symsS z) i < (z.length : Int) := by
  unfold rd
  rw [List.getD_eq_getElem?_getD]
  cases h : (Hu.symsS z)[i.toNat]? with
  | none => exact ⟨Int.le_refl _, by show (0 : Int) < _; omega⟩
  | some x => ?_
  have hm : x ∈ Hu.symsS z := List.mem_of_getElem? h
  have hm2 : x ∈ Hu.symsL z := (Hu.byKey_mem.1 hm).1
  unfold Hu.symsL at hm2
  obtain ⟨y, hy, rfl⟩ := List.mem_map.1 hm2
  have := (Hu.usedL_mem hy).1
  show 0 ≤ (y.1 : Int) ∧ (y.1 : Int) < _
  omega
theorem scan_sym (z b : List Int) (m : Nat) (hz : 1 ≤ z.length) : ∀ d p v, 0 ≤ (scan z b m d p v).1 ∧ (scan z b m d p v).1 < (z.length : Int)
  | 0, p, v => ⟨Int.le_refl _, by show (0 : Int) < _; omega⟩
  | d + 1, p, v => by
    unfold scan
    split
    · exact ⟨Int.le_refl _, by show (0 : Int) < _; omega⟩
    · split
      · exact symsS_bound z _ hz
      · split
        · exact ⟨Int.le_refl _, by show (0 : Int) < _; omega⟩
        · exact scan_sym z b m hz d _ _
theorem symM_ok {l z : List Int} {p : Nat} {s : Int} {p1 : Nat} (hz : OKL z) (hp : p ≤ 8 * l.length) (h : symM l (some z) p = .ok (s, p1)) : 0 ≤ s ∧ s < 288 ∧ s < (z.length : Int) ∧ p < p1 ∧ p1 ≤ 8 * l.length := by
  have h1 := scan_sym z l (8 * l.length) hz.1 15 p 0
  have h2 := scan_place z l (8 * l.length) 15 p 0 (by omega) hp
  have hz2 := hz.2.1
  unfold symM at h
  dsimp only at h
  generalize scan z l (8 * l.length) 15 p 0 = r at *
  split at h
  · next h0 =>
    obtain ⟨q, e, h3, h4⟩ := h2 h0
    injection h with h
    injection h with e1 e2
    rw [e, Int.toNat_natCast] at e2
    subst e1 e2
    omega
  cases h
theorem CodeIn.same {w w' : World} {pv : Value} {t : Option (List Int)} (h : CodeIn w pv t) (hk : ∀ gt cl ss, TabIn w gt cl ss → TabIn w' gt cl ss) : CodeIn w' pv t := by
  unfold CodeIn at h ⊢
  split at h
  · trivial
  · exact ⟨h.1, h.2.1, hk _ _ _ h.2.2⟩
  exact h
theorem CodeIn.on {w w' : World} {pv : Value} {t : Option (List Int)} (h : CodeIn w pv t) (hb : Below w.heap.size w w') : CodeIn w' pv t := h.same fun _ _ _ hT => hT.on hb
theorem CodeIn.moved {w0 w w' : World} {g c : Nat} {A : Option Addr} {l : List Int} {N at_ : Int} {v v' : Value} {out : List Int} {most : Int} {pv : Value} {t : Option (List Int)} (h : CodeIn w pv t) (H : RdrAt w0 w g A c l N at_ v out most) (hm : Moved w w' g v v') : CodeIn w' pv t := h.same fun _ _ _ hT => hT.moved H hm
theorem val_next (k : Nat) (h : k < 1000000000) : Value.int .i64 (wrap64 ((k : Int) + 1)) = Value.int .i64 ((k + 1 : Nat) : Int) := by
  rw [wrap64_id (by omega) (by omega), show (k : Int) + 1 = ((k + 1 : Nat) : Int) by omega]
theorem nat_next (k : Nat) (h : k < 1000000000) : (intOf (Value.int .i64 (wrap64 ((k : Int) + 1)))).toNat = k + 1 := by
  rw [val_next k h]
  rfl
section
attribute [local go_sem] Oper.semAt_some
theorem rsym_any {w0 : World} {A : Option Addr} {c : Nat} {l : List Int} (hr : RowOk w0 A c l) (w : World) (g p : Nat) (pv : Value) (t : Option (List Int)) (v : Value) (out : List Int) (most : Int) (H : RdrAt w0 w g A c l (NN l) (p : Int) v out most) (hp : p ≤ 8 * l.length) (hT : CodeIn w pv t) :
    Calls Tryd.prog 42 #[.pointer (some ⟨g, 0, none⟩), pv] w fun e w' => ToldV w0 w g A c l v out most e w' (symM l t p) := by
  unfold CodeIn at hT
  split at hT
  · exact rsym_none hr w g p v out most H
  · next a z =>
    obtain ⟨h1, h2, h3⟩ := hT
    have := rsym_told hr w g p a.block z v out most H hp h1 h3
    rw [← h2] at this
    exact this
  exact hT.elim
end
end Go.Proofs.YtgflkkjhckcipaaDoor.Pr

-- YtgflkkjhckcipaaDoorIf13
namespace Go.Proofs.YtgflkkjhckcipaaDoor.Pr
open Go.RowKit Go.Shelf Go.Proofs.YtgflkkjhckcipaaDoorW.PrintWords Go.Proofs.YtgflkkjhckcipaaDoorW.PrintLast Go.Proofs.YtgflkkjhckcipaaDoorW.PrintMore
set_option linter.unusedVariables false
set_option linter.unusedSimpArgs false
section
attribute [local go_sem] Oper.semAt_some
theorem symbols_told {w0 : World} {A : Option Addr} {c : Nat} {l : List Int} (hr : RowOk w0 A c l) (w : World) (g p : Nat) (v : Value) (out : List Int) (most : Int) (pl : Value) (lit : List Int) (pd : Value) (dist : Option (List Int)) (H : RdrAt w0 w g A c l (NN l) (p : Int) v out most) (hp : p ≤ 8 * l.length) (hm0 : (out.length : Int) ≤ most) (hm1 : most ≤ 65536) (hL : CodeIn w pl (some lit)) (hD : CodeIn w pd dist) (hlz : OKL lit) (hdz : ∀ z, dist = some z → OKL z) (k : Nat) (hk : 8 * l.length - p < k) (hnc : symbolsM l most lit dist k p out ≠ .error (-1)) :
    Calls Tryd.prog 37 #[.pointer (some ⟨g, 0, none⟩), pl, pd] w fun e w' => ToldO w0 w g A c l v most e w' (symbolsM l most lit dist k p out) := by
  have HR := Ak hr
  have HX := Ak H
  have huR := Tryd.underlying51
  have huB := Tryd.underlying35
  have HM1 := Ak hm1
  have HDZ := Ak hdz
  have HLZ := Ak hlz
  have AT := Ak H
  have MV := Ak (Moved.of_below g v (Below.refl w.heap.size w))
  have HP := Ak hp
  have HL := Ak hL
  have HD := Ak hD
  have HM0 := Ak hm0
  obtain ⟨R, hR⟩ : ∃ R, symbolsM l most lit dist k p out = R := ⟨_, rfl⟩
  rw [hR] at hnc
  rw [hR]
  have HNC := Ak hnc
  have HRR := Ak hR
  have HK := Ak hk
  clear H hr hp hm0 hm1 hL hD hlz hdz hk hR hnc
  go_enter Tryd.func37, Tryd.ntmps37
  go_wp2
  go_loopg [] k (fun kq w' => ∃ (p' : Nat) (ys : List Int) (v1 : Value), Aside0 (RdrAt w0 w' g A c l (NN l) (p' : Int) v1 ys most) ∧ Aside0 (Moved w w' g v v1) ∧ Aside0 (CodeIn w' pl (some lit)) ∧ Aside0 (CodeIn w' pd dist) ∧ Aside0 (p' ≤ 8 * l.length) ∧ Aside0 ((ys.length : Int) ≤ most) ∧ Aside0 (symbolsM l most lit dist kq p' ys = R) ∧ Aside0 (8 * l.length - p' < kq))
  case atStart => exact ⟨p, out, v, AT, MV, HL, HD, HP, HM0, HRR, HK⟩
  case round =>
    clear AT MV HL HD HP HM0 HRR HK
    obtain ⟨p0, ys, v1, AT, MV, HL, HD, HP, HM0, HRR, HK⟩ := hrel
    obtain ⟨A1, c1, rfl⟩ := Kd.R_slice AT.out.row
    have hRR := HRR.out
    clear HRR
    cases gk with
    | zero => exact absurd HK.out (by omega)
    | succ k1 => ?_
    rw [symbolsM] at hRR
    cases h1 : symM l (some lit) p0 with
    | error er =>
      rw [h1] at hRR
      have H1 := Ak h1
      have HRR := Ak hRR.symm
      clear h1 hRR
      go_wp2_with (go_at_call 42; have hcc := rsym_any HR.out _ g p0 pl (some lit) (.slice A1 ys.length c1) ys most AT.out HP.out HL.out; rw [H1.out] at hcc; refine hcc.mono ?_; clear hcc; rintro e w' ⟨pp, rfl, hfa, hb⟩)
      exact ⟨rfl, by rw [HRR.out]; exact ⟨pp, rfl, hfa, (HX.out.between AT.out MV.out.size).trans hb⟩⟩
    | ok r1 => ?_
    obtain ⟨s, p1⟩ := r1
    have hsb := symM_ok HLZ.out HP.out h1
    rw [h1] at hRR
    dsimp only at hRR
    have H1 := Ak h1
    have HSB := Ak hsb
    have HKK := HK.out
    clear h1
    by_cases hs : s = 256
    · rw [if_pos hs] at hRR
      have HRR := Ak hRR.symm
      have q0 := eq_true hs
      have q0b : (s == 256) = true := by rw [hs]; rfl
      subst hs
      clear hRR hsb HKK
      go_wp2_with (go_at_call 42; have hcc := rsym_any HR.out _ g p0 pl (some lit) (.slice A1 ys.length c1) ys most AT.out HP.out HL.out; rw [H1.out] at hcc; refine hcc.mono ?_; clear hcc; rintro e w' ⟨rfl, hq_, hat_, hm_⟩; have AT_ := Ak hat_; have MV_ := Ak (MV.out.trans hm_); have HP_ := Ak hq_; have HL_ := Ak (HL.out.moved AT.out hm_); have HD_ := Ak (HD.out.moved AT.out hm_); clear AT MV HP HL HD hat_ hm_ hq_; have AT := AT_; have MV := MV_; have HP := HP_; have HL := HL_; have HD := HD_; clear AT_ MV_ HP_ HL_ HD_; clear H1)
      refine bodyPost_ret (results_none rfl _ _ _) rfl ?_
      rw [HRR.out]
      exact ⟨rfl, HP.out, _, AT.out, MV.out⟩
    rw [if_neg hs] at hRR
    have q0 := eq_false hs
    have q0b : (s == 256) = false := beq_eq_false_iff_ne.mpr hs
    by_cases hg : s > 256
    · rw [if_pos hg] at hRR
      exact absurd (hRR.symm.trans rfl) HNC.out
    rw [if_neg hg] at hRR
    have q1 := eq_false (show ¬ (256 : Int) < s from hg)
    have q1b : decide ((256 : Int) < s) = false := decide_eq_false hg
    by_cases hrm : 1 > most - (ys.length : Int)
    · rw [if_pos hrm] at hRR
      have HRR := Ak hRR.symm
      have HRm := Ak hrm
      clear hRR hsb HKK hs hg hrm
      go_wp2_with (first | (go_at_call 42; have hcc := rsym_any HR.out _ g p0 pl (some lit) (.slice A1 ys.length c1) ys most AT.out HP.out HL.out; rw [H1.out] at hcc; refine hcc.mono ?_; clear hcc; rintro e w' ⟨rfl, hq_, hat_, hm_⟩; have AT_ := Ak hat_; have MV_ := Ak (MV.out.trans hm_); have HP_ := Ak hq_; have HL_ := Ak (HL.out.moved AT.out hm_); have HD_ := Ak (HD.out.moved AT.out hm_); clear AT MV HP HL HD hat_ hm_ hq_; have AT := AT_; have MV := MV_; have HP := HP_; have HL := HL_; have HD := HD_; clear AT_ MV_ HP_ HL_ HD_; clear H1) | (go_at_call 36; refine (room_full HR.out _ g _ (.slice A1 ys.length c1) ys most 1 AT.out HM0.out HM1.out HRm.out).mono ?_; rintro e w' ⟨pp, rfl, hfa, hb⟩) )
      exact ⟨rfl, by rw [HRR.out]; exact ⟨pp, rfl, hfa, (HX.out.between AT.out MV.out.size).trans hb⟩⟩
    rw [if_neg hrm] at hRR
    have HRR := Ak hRR
    have HRm := Ak (show ¬ (1 : Int) > most - (ys.length : Int) from hrm)
    have hu8 : IntKind.u8.wrap s = s := by rw [IntKind.wrap_u8]; omega
    have hu8b : s % 256 = s := by omega
    have HKN := Ak (show 8 * l.length - p1 < k1 by omega)
    have HM2 := Ak (show ((ys ++ [s]).length : Int) ≤ most by rw [List.length_append, List.length_singleton]; omega)
    have HYL := Ak (show ys.length ≤ 70000 by have := HM0.out; have := HM1.out; omega)
    clear hRR hsb HKK hs hg hrm
    go_wp2_with (first | (go_at_call 42; have hcc := rsym_any HR.out _ g p0 pl (some lit) (.slice A1 ys.length c1) ys most AT.out HP.out HL.out; rw [H1.out] at hcc; refine hcc.mono ?_; clear hcc; rintro e w' ⟨rfl, hq_, hat_, hm_⟩; have AT_ := Ak hat_; have MV_ := Ak (MV.out.trans hm_); have HP_ := Ak hq_; have HL_ := Ak (HL.out.moved AT.out hm_); have HD_ := Ak (HD.out.moved AT.out hm_); clear AT MV HP HL HD hat_ hm_ hq_; have AT := AT_; have MV := MV_; have HP := HP_; have HL := HL_; have HD := HD_; clear AT_ MV_ HP_ HL_ HD_; clear H1) | (go_at_call 36; refine (room_ok HR.out _ g _ (.slice A1 ys.length c1) ys most 1 AT.out HM0.out HM1.out (by have := HRm.out; omega)).mono ?_; rintro e w' ⟨rfl, hb⟩; have AT_ := Ak (AT.out.on hb); have MV_ := Ak (MV.out.trans (Moved.of_below g _ hb)); have HL_ := Ak (HL.out.on hb); have HD_ := Ak (HD.out.on hb); clear AT MV HL HD hb; have AT := AT_; have MV := MV_; have HL := HL_; have HD := HD_; clear AT_ MV_ HL_ HD_; clear HRm; have hc3 : w'.cell? ⟨g, 3, none⟩ = some (.slice A1 ys.length c1) := (blk_cell AT.out.blk 3).trans rfl; have hf3 := blk_frozen AT.out.blk 3) | ((with_reducible refine gate_builtin (b := .append) (xs := #[.tmp 16, .tmp 19]) rfl ?_); at_builtin; refine Kd.R_append (Kd.int .u8) (w0 := w0) w0.heap.size rfl (.tmp 16) (.tmp 19) 22 5 (.int .u8 0) 1 rfl Tryd.underlying22 Hu.info5 rfl (by decide) (by omega) (.slice A1 ys.length c1) ys s [.int .u8 s] (fun _ => True) (fun _ => False) rfl rfl ?aP (fun _ hk => hk.elim) ?aF ?aO ?aB ?aS ?aL ?_; (case aP => exact rfl); (case aF => exact (fun _ _ => trivial)); (case aO => exact AT.out.row); (case aB => exact AT.out.below); (case aS => exact AT.out.below.size); (case aL => have := HYL.out; omega); intro v3 w6 ho hb hg hat; obtain ⟨zs, hzs⟩ : ∃ zs, zs = ys ++ [s] := ⟨_, rfl⟩; rw [← hzs] at ho; have HZS := Ak hzs; clear hzs; obtain ⟨A3, c3, ev⟩ := Kd.R_slice ho; subst ev; have hap0 := AT.out.appended ho hb hg hat; have AP := Ak hap0; have hc3b : w6.cell? ⟨g, 3, none⟩ = some (.slice A1 ys.length c1) := (blk_cell (blk_grown AT.out.blk hg (Kd.R_ne AT.out.row AT.out.blk (by decide))) 3).trans rfl; have hf3b := blk_frozen (blk_grown AT.out.blk hg (Kd.R_ne AT.out.row AT.out.blk (by decide))) 3; clear hap0 ho hb hg hat hc3 hf3) )
    go_roundg k1
    case measure => omega
    case rel => exact ⟨p1, zs, _, ⟨AP.out.1⟩, ⟨MV.out.trans AP.out.2⟩, ⟨HL.out.moved AT.out AP.out.2⟩, ⟨HD.out.moved AT.out AP.out.2⟩, HP, ⟨by rw [HZS.out]; exact HM2.out⟩, ⟨by rw [HZS.out]; exact HRR.out⟩, HKN⟩
end
end Go.Proofs.YtgflkkjhckcipaaDoor.Pr

-- YtgflkkjhckcipaaDoorIf14
namespace Go.Proofs.YtgflkkjhckcipaaDoor.Pr
open Go.RowKit Go.Shelf Go.Proofs.YtgflkkjhckcipaaDoorW.PrintWords Go.Proofs.YtgflkkjhckcipaaDoorW.PrintLast Go.Proofs.YtgflkkjhckcipaaDoorW.PrintMore
set_option linter.unusedVariables false
set_option linter.unusedSimpArgs false
def fixL (i : Nat) : Int := if 144 ≤ i ∧ i < 256 then 9 else if 256 ≤ i ∧ i < 280 then 7 else 8
def fixUp (i : Nat) : List Int := (List.range 288).map fun j => if j < i then fixL j else 0
def fixLit : List Int := (List.range 288).map fixL
def fixDistUp (i : Nat) : List Int := List.replicate i 5 ++ List.replicate (32 - i) 0
def fixDist : List Int := List.replicate 32 5
theorem fixUp_len (i : Nat) : (fixUp i).length = 288 := by unfold fixUp; rw [List.length_map, List.length_range]
theorem fixUp_zero : fixUp 0 = List.replicate 288 0 := by decide +kernel
theorem fixUp_all : fixUp 288 = fixLit := by decide +kernel
theorem fixUp_set {i : Nat} (h : i < 288) : (fixUp i).set i (fixL i) = fixUp (i + 1) := by
  apply List.ext_getElem?
  intro j
  rw [List.getElem?_set, fixUp_len]
  unfold fixUp
  rw [List.getElem?_map, List.getElem?_map]
  by_cases hj : j < 288
  · rw [List.getElem?_range hj]
    simp only [Option.map_some]
    by_cases e : i = j
    · subst e
      rw [if_pos rfl, if_pos hj, if_pos (by omega)]
    · rw [if_neg e]
      by_cases e2 : j < i
      · rw [if_pos e2, if_pos (by omega)]
      · rw [if_neg e2, if_neg (by omega)]
  · rw [if_neg (by omega), List.getElem?_eq_none (by rw [List.length_range]; omega)]
    rfl
theorem fixDist_len (i : Nat) (h : i ≤ 32) : (fixDistUp i).length = 32 := by unfold fixDistUp; rw [List.length_append, List.length_replicate, List.length_replicate]; omega
theorem fixDist_zero : fixDistUp 0 = List.replicate 32 0 := rfl
theorem fixDist_all : fixDistUp 32 = fixDist := rfl
theorem fixDist_all_ : ∀ i : Fin 32, (fixDistUp i.val).set i.val 5 = fixDistUp (i.val + 1) := by decide
theorem fixDist_set {i : Nat} (h : i < 32) : (fixDistUp i).set i 5 = fixDistUp (i + 1) := fixDist_all_ ⟨i, h⟩
theorem fixLit_new : Hu.newS fixLit = 0 := by decide +kernel
theorem fixDist_new : Hu.newS fixDist = 0 := by decide +kernel
theorem okl_new {z : List Int} (h : Hu.newS z = 0) : OKL z := (tbl_of_new h).1
def fixedM (l : List Int) (most : Int) (k p : Nat) (out : List Int) : Except Int (Nat × List Int) := symbolsM l most fixLit (some fixDist) k p out
theorem R_apart {W : World} {base e gl gd n c : Nat} {xs : List Int} (h : Kd.R (Kd.int .i64) e W base (fun _ => True) (.slice (some ⟨gd, 0, none⟩) n c) xs) (hne : gl ≠ gd) (i : Nat) (u : Value) : Kd.R (Kd.int .i64) e (W.setCell ⟨gl, i, none⟩ u) base (fun _ => True) (.slice (some ⟨gd, 0, none⟩) n c) xs :=
  Kd.R_of_own (own_setCell (Kd.own_of_R h) (fun e => hne (by injection e)) u) (fun _ _ => trivial)
theorem fixLit_len : fixLit.length = 288 := by decide +kernel
theorem fixDist_len_ : fixDist.length = 32 := by decide +kernel
theorem table_ok (A : Option Addr) (c n : Nat) (z : List Int) (w : World) (hn : z.length = n) (hr : (Kd.int .i64).C w A z.length z) (hz : Hu.newS z = 0) :
    Calls Tryd.prog 38 #[.slice A n c] w fun e w' => ∃ gt, e = .returned (.pointer (some ⟨gt, 0, none⟩)) ∧ CodeIn w' (.pointer (some ⟨gt, 0, none⟩)) (some z) ∧ Below w.heap.size w w' := by
  subst hn
  refine (table_calls A c z w hr).mono ?_
  rintro e w' (⟨_, gt, he, hT, hb⟩ | ⟨h0, _⟩)
  · exact ⟨gt, he, ⟨okl_new hz, rfl, hT⟩, hb⟩
  · exact absurd hz h0
theorem ToldO.from {w0 w w1 w' : World} {g c : Nat} {A : Option Addr} {l : List Int} {N at_ : Int} {v v1 : Value} {out : List Int} {most : Int} {e : Ending} {R : Except Int (Nat × List Int)} (H : RdrAt w0 w g A c l N at_ v out most) {N1 at1 : Int} {out1 : List Int} (H1 : RdrAt w0 w1 g A c l N1 at1 v1 out1 most) (hm : Moved w w1 g v v1) (h : ToldO w0 w1 g A c l v1 most e w' R) : ToldO w0 w g A c l v most e w' R := by
  cases R with
  | ok r =>
    obtain ⟨h1, h2, v', h3, h4⟩ := h
    exact ⟨h1, h2, v', h3, hm.trans h4⟩
  | error er => exact Gives.from h (H.between H1 hm.size) (Nat.le_refl _)
section
attribute [local go_sem] Oper.semAt_some
set_option maxHeartbeats 16000000 in
set_option maxRecDepth 1000000 in
theorem fixed_told {w0 : World} {A : Option Addr} {c : Nat} {l : List Int} (hr : RowOk w0 A c l) (w : World) (g p : Nat) (v : Value) (out : List Int) (most : Int) (H : RdrAt w0 w g A c l (NN l) (p : Int) v out most) (hp : p ≤ 8 * l.length) (hm0 : (out.length : Int) ≤ most) (hm1 : most ≤ 65536) (k : Nat) (hk : 8 * l.length - p < k) (hnc : fixedM l most k p out ≠ .error (-1)) :
    Calls Tryd.prog 28 #[.pointer (some ⟨g, 0, none⟩)] w fun e w' => ToldO w0 w g A c l v most e w' (fixedM l most k p out) := by
  have HR := Aside0.mk hr
  have HX := Aside0.mk H
  have HP := Aside0.mk hp
  have HM0 := Aside0.mk hm0
  have HM1 := Aside0.mk hm1
  have HK := Aside0.mk hk
  have HB := Aside0.mk (Below.refl w.heap.size w)
  clear hr H hp hm0 hm1 hk
  have hnc2 : symbolsM l most fixLit (some fixDist) k p out ≠ .error (-1) := hnc
  clear hnc
  unfold fixedM
  obtain ⟨R, hR⟩ : ∃ R, symbolsM l most fixLit (some fixDist) k p out = R := ⟨_, rfl⟩
  rw [hR] at hnc2
  rw [hR]
  have HNC := Aside0.mk hnc2
  clear hnc2
  have HRR := Aside0.mk hR
  clear hR
  go_enter Tryd.func28, Tryd.ntmps28
  go_upto_region 0 with (fail)
  have HB_ := Aside0.mk (below_drew1 HB.out)
  clear HB
  have HB := HB_
  clear HB_
  refine start_ (n := 4) (S := fun w' => True) (ds := []) #[false, false, false, false] (by kernel_rfl) rfl rfl trivial (fun hHeld => ?_)
  generalize w.drew = wd at HB hHeld ⊢
  refine join_ (σ := Nat × Nat × Nat × Nat) 1 #[true, true, true, false] (fun s => [(6, .slice (some ⟨s.1, 0, none⟩) 288 s.2.1), (7, .slice (some ⟨s.2.2.1, 0, none⟩) 32 s.2.2.2), (2, .slice (some ⟨s.1, 0, none⟩) 288 s.2.1)]) (fun s w' => (Kd.R (Kd.int .i64) 3 w' w.heap.size (fun _ => True) (.slice (some ⟨s.1, 0, none⟩) 288 s.2.1) (List.replicate 288 0) ∧ Kd.R (Kd.int .i64) 3 w' w.heap.size (fun _ => True) (.slice (some ⟨s.2.2.1, 0, none⟩) 32 s.2.2.2) (List.replicate 32 0) ∧ s.1 ≠ s.2.2.1 ∧ w.heap.size ≤ s.1 ∧ w.heap.size ≤ s.2.2.1 ∧ Below w.heap.size w w') ∧ True) ?_ ?_
  rotate_left
  · intro hCont
    refine two_ (i := 0) (j := 1) (Ni := some 6) (Nj := some 7) #[true, false, false, false] #[false, true, false, false] rfl rfl rfl rfl (by kernel_rfl) (by decide) (by decide) (fun K hK => ?_) (fun K hK => ?_)
    · skip
      refine Kd.R_make_step (Kd.int .i64) (w0 := w) w.heap.size 3 (by rfl) (N := 6) rfl 32 (.const (.int .i64 288)) (.const (.int .i64 288)) rfl 288 rfl rfl Tryd.underlying32 (.int .i64 0) 8 Hu.info3 rfl (by decide) (by omega) (0 : Int) (ok := fun _ => True) (okp := fun _ => False) rfl (fun _ h => h.elim) trivial (by decide) (by decide) HB.out HB.out.size ?_
      intro v0_ w4 ho hb hg hat
      replace ho : Kd.R (Kd.int .i64) 3 w4 w.heap.size (fun _ => True) v0_ (List.replicate 288 0) := ho
      obtain ⟨gl, cl, ev, hgb, hgl_, cells_, hcells_⟩ := Kd.R_form ho (by rw [List.length_replicate]; decide)
      rw [List.length_replicate] at ev
      subst ev
      have n0 := Aside0.mk (hb)
      have n1 := Aside0.mk (ho)
      clear HB
      have HB := n0
      have HL := n1
      clear n0 n1
      clear hb hg hat hgb hgl_ hcells_ ho
      refine hK.out _ _ trivial (fun hHeld => ?_)
      clear hK K
      refine norm_ (a' := ?_) ?_ ?_
      rotate_left
      · show Act.put _ (some 6) _ = _
        simp only [Act.put, List.setIfInBounds_toArray, List.set_cons_zero, List.set_cons_succ, i64_w, i32_w, u8_w]
        rfl
      refine pure_ (i := 2) (N := some 2) (v := ?_) (a' := ?_) #[true, false, true, false] rfl rfl (by kernel_rfl) (fun _ _ _ h => h) (Or.inl ⟨by rfl, ?_⟩) ?_ ?_
      rotate_left
      · intro w'
        go_simp
        with_reducible rfl
      rotate_left
      · simp only [Act.put, List.setIfInBounds_toArray, List.set_cons_zero, List.set_cons_succ, i64_w, i32_w, u8_w]
        rfl
      refine one_ (i := 1) (N := some 7) #[true, true, true, false] rfl rfl (by kernel_rfl) (by decide) (fun K hK => ?_)
      refine Kd.R_make_step (Kd.int .i64) (w0 := w) w.heap.size 3 (by rfl) (N := 7) rfl 32 (.const (.int .i64 32)) (.const (.int .i64 32)) rfl 32 rfl rfl Tryd.underlying32 (.int .i64 0) 8 Hu.info3 rfl (by decide) (by omega) (0 : Int) (ok := fun _ => True) (okp := fun _ => False) rfl (fun _ h => h.elim) trivial (by decide) (by decide) HB.out HB.out.size ?_
      intro v1_ w5 ho hb hg hat
      replace ho : Kd.R (Kd.int .i64) 3 w5 w.heap.size (fun _ => True) v1_ (List.replicate 32 0) := ho
      obtain ⟨gd, cd, ev, hgb, hgl_, cells_, hcells_⟩ := Kd.R_form ho (by rw [List.length_replicate]; decide)
      rw [List.length_replicate] at ev
      subst ev
      have hne : gd ≠ gl := (by have hlt := Kd.R_lt HL.out gl rfl; obtain ⟨b, hb1, hb2⟩ := hat; simp [Value.ownBlock] at hb1; omega)
      have HNE := Aside0.mk (show gl ≠ gd from fun e => hne e.symm)
      clear hne
      have n0 := Aside0.mk (hb)
      have n1 := Aside0.mk (ho)
      have n2 := Aside0.mk (Kd.R_grown HL.out hg (fun k _ => by simp))
      clear HB HL
      have HB := n0
      have HD := n1
      have HL := n2
      clear n0 n1 n2
      clear hb hg hat hgb hgl_ hcells_ ho
      refine hK.out _ _ trivial (fun hHeld => ?_)
      clear hK K
      refine norm_ (a' := ?_) ?_ ?_
      rotate_left
      · show Act.put _ (some 7) _ = _
        simp only [Act.put, List.setIfInBounds_toArray, List.set_cons_zero, List.set_cons_succ, i64_w, i32_w, u8_w]
        rfl
      exact norm_ (by simp only [putAll, Act.put, List.setIfInBounds_toArray, List.set_cons_zero, List.set_cons_succ]) (hCont (gl, cl, gd, cd) _ ⟨⟨HL.out, HD.out, HNE.out, Kd.R_base HL.out gl rfl, Kd.R_base HD.out gd rfl, HB.out⟩, trivial⟩)
    · skip
      refine Kd.R_make_step (Kd.int .i64) (w0 := w) w.heap.size 3 (by rfl) (N := 7) rfl 32 (.const (.int .i64 32)) (.const (.int .i64 32)) rfl 32 rfl rfl Tryd.underlying32 (.int .i64 0) 8 Hu.info3 rfl (by decide) (by omega) (0 : Int) (ok := fun _ => True) (okp := fun _ => False) rfl (fun _ h => h.elim) trivial (by decide) (by decide) HB.out HB.out.size ?_
      intro v1_ w4 ho hb hg hat
      replace ho : Kd.R (Kd.int .i64) 3 w4 w.heap.size (fun _ => True) v1_ (List.replicate 32 0) := ho
      obtain ⟨gd, cd, ev, hgb, hgl_, cells_, hcells_⟩ := Kd.R_form ho (by rw [List.length_replicate]; decide)
      rw [List.length_replicate] at ev
      subst ev
      have n0 := Aside0.mk (hb)
      have n1 := Aside0.mk (ho)
      clear HB
      have HB := n0
      have HD := n1
      clear n0 n1
      clear hb hg hat hgb hgl_ hcells_ ho
      refine hK.out _ _ trivial (fun hHeld => ?_)
      clear hK K
      refine norm_ (a' := ?_) ?_ ?_
      rotate_left
      · show Act.put _ (some 7) _ = _
        simp only [Act.put, List.setIfInBounds_toArray, List.set_cons_zero, List.set_cons_succ, i64_w, i32_w, u8_w]
        rfl
      refine one_ (i := 0) (N := some 6) #[true, true, false, false] rfl rfl (by kernel_rfl) (by decide) (fun K hK => ?_)
      refine Kd.R_make_step (Kd.int .i64) (w0 := w) w.heap.size 3 (by rfl) (N := 6) rfl 32 (.const (.int .i64 288)) (.const (.int .i64 288)) rfl 288 rfl rfl Tryd.underlying32 (.int .i64 0) 8 Hu.info3 rfl (by decide) (by omega) (0 : Int) (ok := fun _ => True) (okp := fun _ => False) rfl (fun _ h => h.elim) trivial (by decide) (by decide) HB.out HB.out.size ?_
      intro v0_ w5 ho hb hg hat
      replace ho : Kd.R (Kd.int .i64) 3 w5 w.heap.size (fun _ => True) v0_ (List.replicate 288 0) := ho
      obtain ⟨gl, cl, ev, hgb, hgl_, cells_, hcells_⟩ := Kd.R_form ho (by rw [List.length_replicate]; decide)
      rw [List.length_replicate] at ev
      subst ev
      have hne : gl ≠ gd := (by have hlt := Kd.R_lt HD.out gd rfl; obtain ⟨b, hb1, hb2⟩ := hat; simp [Value.ownBlock] at hb1; omega)
      have HNE := Aside0.mk (show gl ≠ gd from hne)
      clear hne
      have n0 := Aside0.mk (hb)
      have n1 := Aside0.mk (ho)
      have n2 := Aside0.mk (Kd.R_grown HD.out hg (fun k _ => by simp))
      clear HB HD
      have HB := n0
      have HL := n1
      have HD := n2
      clear n0 n1 n2
      clear hb hg hat hgb hgl_ hcells_ ho
      refine hK.out _ _ trivial (fun hHeld => ?_)
      clear hK K
      refine norm_ (a' := ?_) ?_ ?_
      rotate_left
      · show Act.put _ (some 6) _ = _
        simp only [Act.put, List.setIfInBounds_toArray, List.set_cons_zero, List.set_cons_succ, i64_w, i32_w, u8_w]
        rfl
      refine pure_ (i := 2) (N := some 2) (v := ?_) (a' := ?_) #[true, true, true, false] rfl rfl (by kernel_rfl) (fun _ _ _ h => h) (Or.inl ⟨by rfl, ?_⟩) ?_ ?_
      rotate_left
      · intro w'
        go_simp
        with_reducible rfl
      rotate_left
      · simp only [Act.put, List.setIfInBounds_toArray, List.set_cons_zero, List.set_cons_succ, i64_w, i32_w, u8_w]
        rfl
      exact norm_ (by simp only [putAll, Act.put, List.setIfInBounds_toArray, List.set_cons_zero, List.set_cons_succ]) (hCont (gl, cl, gd, cd) _ ⟨⟨HL.out, HD.out, HNE.out, Kd.R_base HL.out gl rfl, Kd.R_base HD.out gd rfl, HB.out⟩, trivial⟩)
  rintro ⟨gl, cl, gd, cd⟩ w9 ⟨⟨hL, hD, hne, hgel, hged, hB⟩, hHeld⟩
  have HGE := Aside0.mk hgel
  have HGD := Aside0.mk hged
  have HL := Aside0.mk hL
  have HD := Aside0.mk hD
  have HNE := Aside0.mk hne
  have HB := Aside0.mk hB
  clear hL hD hne hB hgel hged
  refine norm_ (a' := ?_) ?_ ?_
  rotate_left
  · simp only [putAll, Act.put, List.setIfInBounds_toArray, List.set_cons_zero, List.set_cons_succ]
    rfl
  refine pure_ (i := 3) (N := some 3) (v := ?_) (a' := ?_) #[true, true, true, true] rfl rfl (by kernel_rfl) (fun _ _ _ h => h) (Or.inl ⟨by rfl, ?_⟩) ?_ ?_
  rotate_left
  · intro w'
    go_simp
    with_reducible rfl
  rotate_left
  · simp only [Act.put, List.setIfInBounds_toArray, List.set_cons_zero, List.set_cons_succ, i64_w, i32_w, u8_w]
    rfl
  refine done_ (by kernel_rfl) ?_
  clear hHeld
  have HL_ := Aside0.mk (show Kd.R (Kd.int .i64) 3 w9 w.heap.size (fun _ => True) (.slice (some ⟨gl, 0, none⟩) 288 cl) (fixUp 0) from by rw [fixUp_zero]; exact HL.out)
  clear HL
  have HL := HL_
  clear HL_
  go_wp2
  go_loopw [10] (fun x10 w' => ∃ i : Nat, i ≤ 288 ∧ x10 = .int .i64 (i : Int) ∧ Aside0 (Kd.R (Kd.int .i64) 3 w' w.heap.size (fun _ => True) (.slice (some ⟨gl, 0, none⟩) 288 cl) (fixUp i)) ∧ Aside0 (Kd.R (Kd.int .i64) 3 w' w.heap.size (fun _ => True) (.slice (some ⟨gd, 0, none⟩) 32 cd) (List.replicate 32 0)) ∧ Aside0 (Below w.heap.size w w')) (fun x10 _ => 289 - (intOf x10).toNat)
  case atStart => exact ⟨0, by omega, rfl, HL, HD, HB⟩
  case round =>
    clear HL HD HB
    obtain ⟨i, hi, rfl, HL, HD, HB⟩ := hrel
    by_cases hlt : i < 288
    · by_cases h9 : 144 ≤ i ∧ i < 256
      · have q0 := eq_true (show (144 : Int) ≤ (i : Int) by omega)
        have q0n := eq_true (show 144 ≤ i by omega)
        have q1 := eq_true (show (i : Int) < 256 by omega)
        have q1n := eq_true (show i < 256 by omega)
        have hcv := (Hu.row_at HL.out i hlt).1
        have hfv := (Hu.row_at HL.out i hlt).2
        have HI := Aside0.mk hlt
        have HFX := Aside0.mk (show fixL i = 9 from by unfold fixL; rw [if_pos (by omega)])
        have q10 := eq_true (show (i : Int) < 288 by omega)
        have q11 := eq_true hlt
        have q12 := eq_true (show (0 : Int) ≤ (i : Int) by omega)
        clear hlt hi
        go_wp2
        go_roundw
        case rel => exact ⟨i + 1, by have := HI.out; omega, (by first | exact val_next _ (by have := HI.out; omega) | (congr 1)), ⟨by rw [← fixUp_set HI.out, HFX.out]; exact (Hu.row_put HL.out i 9).1⟩, ⟨R_apart HD.out HNE.out _ _⟩, ⟨HB.out.setCell (p := ⟨gl, i, none⟩) HGE.out _⟩⟩
        case measure => first | (rw [nat_next _ (by have := HI.out; omega)]; simp only [intOf, Int.toNat_natCast]; have := HI.out; omega) | (simp only [intOf]; have := HI.out; omega)
      · by_cases h7 : 256 ≤ i ∧ i < 280
        · have q0 := eq_true (show (144 : Int) ≤ (i : Int) by omega)
          have q0n := eq_true (show 144 ≤ i by omega)
          have q1 := eq_false (show ¬ (i : Int) < 256 by omega)
          have q1n := eq_false (show ¬ i < 256 by omega)
          have q2 := eq_true (show (256 : Int) ≤ (i : Int) by omega)
          have q2n := eq_true (show 256 ≤ i by omega)
          have q3 := eq_true (show (i : Int) < 280 by omega)
          have q3n := eq_true (show i < 280 by omega)
          have hcv := (Hu.row_at HL.out i hlt).1
          have hfv := (Hu.row_at HL.out i hlt).2
          have HI := Aside0.mk hlt
          have HFX := Aside0.mk (show fixL i = 7 from by unfold fixL; rw [if_neg (by omega), if_pos (by omega)])
          have q10 := eq_true (show (i : Int) < 288 by omega)
          have q11 := eq_true hlt
          have q12 := eq_true (show (0 : Int) ≤ (i : Int) by omega)
          clear hlt hi
          go_wp2
          go_roundw
          case rel => exact ⟨i + 1, by have := HI.out; omega, (by first | exact val_next _ (by have := HI.out; omega) | (congr 1)), ⟨by rw [← fixUp_set HI.out, HFX.out]; exact (Hu.row_put HL.out i 7).1⟩, ⟨R_apart HD.out HNE.out _ _⟩, ⟨HB.out.setCell (p := ⟨gl, i, none⟩) HGE.out _⟩⟩
          case measure => first | (rw [nat_next _ (by have := HI.out; omega)]; simp only [intOf, Int.toNat_natCast]; have := HI.out; omega) | (simp only [intOf]; have := HI.out; omega)
        · rcases (by omega : i < 144 ∨ 280 ≤ i) with h8 | h8
          · have q0 := eq_false (show ¬ (144 : Int) ≤ (i : Int) by omega)
            have q0n := eq_false (show ¬ 144 ≤ i by omega)
            have q2 := eq_false (show ¬ (256 : Int) ≤ (i : Int) by omega)
            have q2n := eq_false (show ¬ 256 ≤ i by omega)
            have hcv := (Hu.row_at HL.out i hlt).1
            have hfv := (Hu.row_at HL.out i hlt).2
            have HI := Aside0.mk hlt
            have HFX := Aside0.mk (show fixL i = 8 from by unfold fixL; rw [if_neg (by omega), if_neg (by omega)])
            have q10 := eq_true (show (i : Int) < 288 by omega)
            have q11 := eq_true hlt
            have q12 := eq_true (show (0 : Int) ≤ (i : Int) by omega)
            clear hlt hi
            go_wp2
            go_roundw
            case rel => exact ⟨i + 1, by have := HI.out; omega, (by first | exact val_next _ (by have := HI.out; omega) | (congr 1)), ⟨by rw [← fixUp_set HI.out, HFX.out]; exact (Hu.row_put HL.out i 8).1⟩, ⟨R_apart HD.out HNE.out _ _⟩, ⟨HB.out.setCell (p := ⟨gl, i, none⟩) HGE.out _⟩⟩
            case measure => first | (rw [nat_next _ (by have := HI.out; omega)]; simp only [intOf, Int.toNat_natCast]; have := HI.out; omega) | (simp only [intOf]; have := HI.out; omega)
          · have q0 := eq_true (show (144 : Int) ≤ (i : Int) by omega)
            have q0n := eq_true (show 144 ≤ i by omega)
            have q1 := eq_false (show ¬ (i : Int) < 256 by omega)
            have q1n := eq_false (show ¬ i < 256 by omega)
            have q2 := eq_true (show (256 : Int) ≤ (i : Int) by omega)
            have q2n := eq_true (show 256 ≤ i by omega)
            have q3 := eq_false (show ¬ (i : Int) < 280 by omega)
            have q3n := eq_false (show ¬ i < 280 by omega)
            have hcv := (Hu.row_at HL.out i hlt).1
            have hfv := (Hu.row_at HL.out i hlt).2
            have HI := Aside0.mk hlt
            have HFX := Aside0.mk (show fixL i = 8 from by unfold fixL; rw [if_neg (by omega), if_neg (by omega)])
            have q10 := eq_true (show (i : Int) < 288 by omega)
            have q11 := eq_true hlt
            have q12 := eq_true (show (0 : Int) ≤ (i : Int) by omega)
            clear hlt hi
            go_wp2
            go_roundw
            case rel => exact ⟨i + 1, by have := HI.out; omega, (by first | exact val_next _ (by have := HI.out; omega) | (congr 1)), ⟨by rw [← fixUp_set HI.out, HFX.out]; exact (Hu.row_put HL.out i 8).1⟩, ⟨R_apart HD.out HNE.out _ _⟩, ⟨HB.out.setCell (p := ⟨gl, i, none⟩) HGE.out _⟩⟩
            case measure => first | (rw [nat_next _ (by have := HI.out; omega)]; simp only [intOf, Int.toNat_natCast]; have := HI.out; omega) | (simp only [intOf]; have := HI.out; omega)
    · obtain rfl : i = 288 := by omega
      have HL_ := Aside0.mk (show Kd.R (Kd.int .i64) 3 wr w.heap.size (fun _ => True) (.slice (some ⟨gl, 0, none⟩) 288 cl) fixLit from by rw [← fixUp_all]; exact HL.out)
      clear HL hi hlt
      have HL := HL_
      clear HL_
      have HD_ := Aside0.mk (show Kd.R (Kd.int .i64) 3 wr w.heap.size (fun _ => True) (.slice (some ⟨gd, 0, none⟩) 32 cd) (fixDistUp 0) from HD.out)
      clear HD
      have HD := HD_
      clear HD_
      go_wp2
      go_loopw [39] (fun x39 w' => ∃ i : Nat, i ≤ 32 ∧ x39 = .int .i64 (i : Int) ∧ Aside0 (Kd.R (Kd.int .i64) 3 w' w.heap.size (fun _ => True) (.slice (some ⟨gl, 0, none⟩) 288 cl) fixLit) ∧ Aside0 (Kd.R (Kd.int .i64) 3 w' w.heap.size (fun _ => True) (.slice (some ⟨gd, 0, none⟩) 32 cd) (fixDistUp i)) ∧ Aside0 (Below w.heap.size w w')) (fun x39 _ => 33 - (intOf x39).toNat)
      case atStart => exact ⟨0, by omega, rfl, HL, HD, HB⟩
      case round =>
        clear HL HD HB
        obtain ⟨i, hi, rfl, HL, HD, HB⟩ := hrel
        by_cases hlt : i < 32
        · have hcv := (Hu.row_at HD.out i hlt).1
          have hfv := (Hu.row_at HD.out i hlt).2
          have HI := Aside0.mk hlt
          have q10 := eq_true (show (i : Int) < 32 by omega)
          have q11 := eq_true hlt
          have q12 := eq_true (show (0 : Int) ≤ (i : Int) by omega)
          clear hlt hi
          go_wp2
          go_roundw
          case rel => exact ⟨i + 1, by have := HI.out; omega, (by first | exact val_next _ (by have := HI.out; omega) | (congr 1)), ⟨R_apart HL.out HNE.out.symm _ _⟩, ⟨by rw [← fixDist_set HI.out]; exact (Hu.row_put HD.out i 5).1⟩, ⟨HB.out.setCell (p := ⟨gd, i, none⟩) HGD.out _⟩⟩
          case measure => first | (rw [nat_next _ (by have := HI.out; omega)]; simp only [intOf, Int.toNat_natCast]; have := HI.out; omega) | (simp only [intOf]; have := HI.out; omega)
        · obtain rfl : i = 32 := by omega
          have HD_ := Aside0.mk (show Kd.R (Kd.int .i64) 3 wr w.heap.size (fun _ => True) (.slice (some ⟨gd, 0, none⟩) 32 cd) fixDist from by rw [← fixDist_all]; exact HD.out)
          clear HD hi hlt
          have HD := HD_
          clear HD_
          cases R with
          | error er =>
            go_wp2_with (first
        | (go_at_call 38; refine (table_ok (some ⟨gl, 0, none⟩) cl 288 fixLit _ fixLit_len (Kd.R_reads' HL.out).2.2 fixLit_new).mono ?_; rintro e w' ⟨gt, rfl, hT, hb⟩; have n0 := Aside0.mk (hT); have n1 := Aside0.mk (Kd.R_below HD.out hb); have n2 := Aside0.mk (below_then HB.out HB.out.size hb); clear HD HB HL; have C1 := n0; have HD := n1; have HB := n2; clear n0 n1 n2; clear hT hb)
        | (go_at_call 38; refine (table_ok (some ⟨gd, 0, none⟩) cd 32 fixDist _ fixDist_len_ (Kd.R_reads' HD.out).2.2 fixDist_new).mono ?_; rintro e w' ⟨gt2, rfl, hT, hb⟩; have n0 := Aside0.mk (hT); have n1 := Aside0.mk (C1.out.on hb); have n2 := Aside0.mk (below_then HB.out HB.out.size hb); clear C1 HB HD; have C2 := n0; have C1 := n1; have HB := n2; clear n0 n1 n2; clear hT hb)
        | (go_at_call 37; have hcc := symbols_told HR.out _ g p v out most _ fixLit _ (some fixDist) (HX.out.on HB.out) HP.out HM0.out HM1.out C1.out C2.out (okl_new fixLit_new) (fun z hz => by injection hz with hz; subst hz; exact okl_new fixDist_new) k HK.out (by rw [HRR.out]; exact HNC.out); rw [HRR.out] at hcc; refine hcc.mono ?_; clear hcc; rintro e w' ⟨pp, rfl, hfa, hb⟩)
        )
            exact ⟨rfl, pp, rfl, hfa, (HX.out.between (HX.out.on HB.out) HB.out.size).trans hb⟩
          | ok r =>
            obtain ⟨p2, ys⟩ := r
            go_wp2_with (first
        | (go_at_call 38; refine (table_ok (some ⟨gl, 0, none⟩) cl 288 fixLit _ fixLit_len (Kd.R_reads' HL.out).2.2 fixLit_new).mono ?_; rintro e w' ⟨gt, rfl, hT, hb⟩; have n0 := Aside0.mk (hT); have n1 := Aside0.mk (Kd.R_below HD.out hb); have n2 := Aside0.mk (below_then HB.out HB.out.size hb); clear HD HB HL; have C1 := n0; have HD := n1; have HB := n2; clear n0 n1 n2; clear hT hb)
        | (go_at_call 38; refine (table_ok (some ⟨gd, 0, none⟩) cd 32 fixDist _ fixDist_len_ (Kd.R_reads' HD.out).2.2 fixDist_new).mono ?_; rintro e w' ⟨gt2, rfl, hT, hb⟩; have n0 := Aside0.mk (hT); have n1 := Aside0.mk (C1.out.on hb); have n2 := Aside0.mk (below_then HB.out HB.out.size hb); clear C1 HB HD; have C2 := n0; have C1 := n1; have HB := n2; clear n0 n1 n2; clear hT hb)
        | (go_at_call 37; have hcc := symbols_told HR.out _ g p v out most _ fixLit _ (some fixDist) (HX.out.on HB.out) HP.out HM0.out HM1.out C1.out C2.out (okl_new fixLit_new) (fun z hz => by injection hz with hz; subst hz; exact okl_new fixDist_new) k HK.out (by rw [HRR.out]; exact HNC.out); rw [HRR.out] at hcc; refine hcc.mono ?_; clear hcc; rintro e w' ⟨rfl, hq, v', hat, hm⟩)
        )
            go_end0
            exact ⟨rfl, hq, v', hat, (Moved.of_below g v HB.out).trans hm⟩
end
end Go.Proofs.YtgflkkjhckcipaaDoor.Pr

-- YtgflkkjhckcipaaDoorIf15
namespace Go.Proofs.YtgflkkjhckcipaaDoor.Pr
open Go.RowKit Go.Shelf Go.Proofs.YtgflkkjhckcipaaDoorW.PrintWords Go.Proofs.YtgflkkjhckcipaaDoorW.PrintLast Go.Proofs.YtgflkkjhckcipaaDoorW.PrintMore
set_option linter.unusedVariables false
set_option linter.unusedSimpArgs false
def orderL : List Nat := [16, 17, 18, 0, 8, 7, 9, 6, 10, 5, 11, 4, 12, 3, 13, 2, 14, 1, 15]
def codesM (l : List Int) : Nat → Nat → Nat → List Int → Except Int (List Int × Nat)
  | 0, _, p, lens => if Hu.newS lens = 0 then .ok (lens, p) else .error (Hu.newS lens)
  | d + 1, i, p, lens => match bitsM l p 3 with
    | .error e => .error e
    | .ok (x, p1) => codesM l d (i + 1) p1 (lens.set (orderL.getD i 0) x)
def extraN (s : Int) : Nat := if s = 16 then 2 else if s = 17 then 3 else if s = 18 then 7 else 0
def takeM (out : List Int) (s x : Int) (n : Nat) : Except Int (List Int) :=
  if s = 16 ∧ out.length = 0 then .error 9
  else
    let v : Int := if s = 16 then out.getD (out.length - 1) 0 else if s = 17 then 0 else if s = 18 then 0 else s
    let many : Nat := if s = 16 then 3 + x.toNat else if s = 17 then 3 + x.toNat else if s = 18 then 11 + x.toNat else 1
    if many > n - out.length then .error 3 else .ok (out ++ List.replicate many v)
def lengthsM (l z : List Int) (n : Nat) : Nat → Nat → List Int → Except Int (List Int × Nat)
  | 0, _, _ => .error 0
  | k + 1, p, out => if out.length < n then (match symM l (some z) p with
      | .error e => .error e
      | .ok (s, p1) => match bitsM l p1 (extraN s) with
        | .error e => .error e
        | .ok (x, p2) => match takeM out s x n with
          | .error e => .error e
          | .ok out2 => lengthsM l z n k p2 out2)
    else .ok (out, p)
def headerM (l : List Int) (k p : Nat) : Except Int (List Int × List Int × Nat) :=
  match bitsM l p 5 with
  | .error e => .error e
  | .ok (x, p1) => match bitsM l p1 5 with
    | .error e => .error e
    | .ok (y, p2) => if 257 + x > 286 ∨ 1 + y > 30 then .error 3 else match bitsM l p2 4 with
      | .error e => .error e
      | .ok (q, p3) => match codesM l (4 + q.toNat) 0 p3 (List.replicate 19 0) with
        | .error e => .error e
        | .ok (z, p4) => match lengthsM l z (257 + x.toNat + (1 + y.toNat)) k p4 [] with
          | .error e => .error e
          | .ok (all, p5) => .ok (all.take (257 + x.toNat), all.drop (257 + x.toNat), p5)
def HGives (n : Nat) (w w' : World) (er : Int) (e : Ending) : Prop := e = .panicked [{ v := .iface 24 (.int .i64 er), recovered := false }] ∧ Below n w w'
structure HRdrAt (w0 w : World) (g : Nat) (A : Option Addr) (c : Nat) (l : List Int) (N at_ : Int) : Prop where
  below : Below w0.heap.size w0 w
  ge : w0.heap.size ≤ g
  blk : w.heap[g]? = some (.cells #[.slice A l.length c, .int .i64 N, .int .i64 at_] 106 (0, 0))
structure HMoved (w w' : World) (g : Nat) : Prop where
  size : w.heap.size ≤ w'.heap.size
  keep : ∀ k, k < w.heap.size → k ≠ g → w'.heap[k]? = w.heap[k]?
theorem HMoved.of_below {w w' : World} (g : Nat) (h : Below w.heap.size w w') : HMoved w w' g := ⟨h.size, fun k hk _ => h.block k hk⟩
theorem HMoved.trans {w w1 w2 : World} {g : Nat} (h : HMoved w w1 g) (k : HMoved w1 w2 g) : HMoved w w2 g := ⟨Nat.le_trans h.size k.size, fun i hi hg => (k.keep i (Nat.lt_of_lt_of_le hi h.size) hg).trans (h.keep i hi hg)⟩
theorem HMoved.set_ {w w1 : World} {g : Nat} (h : HMoved w w1 g) (j : Nat) (u : Value) : HMoved w (w1.setCell ⟨g, j, none⟩ u) g := ⟨by simpa [World.setCell] using h.size, fun i hi hg => (Below.heap_setCell w1 ⟨g, j, none⟩ u i hg).trans (h.keep i hi hg)⟩
theorem HRdrAt.on {w0 w w' : World} {g c : Nat} {A : Option Addr} {l : List Int} {N at_ : Int} (h : HRdrAt w0 w g A c l N at_) (hb : Below w.heap.size w w') : HRdrAt w0 w' g A c l N at_ := ⟨below_then h.below h.below.size hb, h.ge, blk_below h.blk hb⟩
theorem HRdrAt.setAt {w0 w : World} {g c : Nat} {A : Option Addr} {l : List Int} {N at_ : Int} (h : HRdrAt w0 w g A c l N at_) (x : Int) : HRdrAt w0 (w.setCell ⟨g, 2, none⟩ (.int .i64 x)) g A c l N x := ⟨h.below.setCell (p := ⟨g, 2, none⟩) h.ge _, h.ge, blk_set h.blk 2 _⟩
theorem HRdrAt.between {w0 w w1 : World} {g g1 c c1 : Nat} {A A1 : Option Addr} {l l1 : List Int} {N at_ N1 at1 : Int} (H : HRdrAt w0 w g A c l N at_) (H1 : HRdrAt w0 w1 g1 A1 c1 l1 N1 at1) (hs : w.heap.size ≤ w1.heap.size) : Below w0.heap.size w w1 :=
  ⟨H1.below.os.trans H.below.os.symm, H1.below.tape.trans H.below.tape.symm, H1.below.output.trans H.below.output.symm, hs, fun k hk => (H1.below.block k hk).trans (H.below.block k hk).symm⟩
def HToldV (w0 w : World) (g : Nat) (A : Option Addr) (c : Nat) (l : List Int) (e : Ending) (w' : World) : Except Int (Int × Nat) → Prop
  | .ok (x, p') => e = .returned (.int .i64 x) ∧ p' ≤ 8 * l.length ∧ HRdrAt w0 w' g A c l (NN l) ((p' : Nat) : Int) ∧ HMoved w w' g
  | .error er => HGives w0.heap.size w w' er e
theorem hmust_zero (r : Value) (w : World) : Calls Tryd.prog 47 #[r, .int .i64 0] w fun e w' => e = .returned (.tuple #[]) ∧ w' = w := by
  go_enter Tryd.func47, Tryd.ntmps47
  go_wp2
  go_end0
  exact ⟨rfl, rfl⟩
theorem hmust_else (r : Value) (er : Int) (h : er ≠ 0) (w : World) : Calls Tryd.prog 47 #[r, .int .i64 er] w fun e w' => HGives w.heap.size w w' er e := by
  have q := bne_iff_ne.2 h
  go_enter Tryd.func47, Tryd.ntmps47
  go_wp2
  exact ⟨rfl, rfl, Below.refl _ _⟩
section
attribute [local go_sem] Oper.semAt_some
theorem hbits_calls (k : Nat) {w0 : World} {A : Option Addr} {c : Nat} {l : List Int} (hC : (Kd.int .u8).C w0 A l.length l) (hc : l.length ≤ c) (w : World) (g : Nat) (N at_ n r1 r2 : Int) (H : HRdrAt w0 w g A c l N at_) (hf : bits_Get.f k l N at_ n = some (r1, r2)) :
    Calls Tryd.prog 46 #[.pointer (some ⟨g, 0, none⟩), .int .i64 n] w fun e w' => (r2 = 0 ∧ e = .returned (.int .i64 r1) ∧ HRdrAt w0 w' g A c l N (wrap64 (at_ + n)) ∧ HMoved w w' g) ∨ (r2 ≠ 0 ∧ HGives w0.heap.size w w' r2 e) := by
  have huR := Tryd.underlying106
  have huB := Tryd.underlying35
  have HF := Ak hf
  have HC := Ak hC
  have HCc := Ak hc
  have HX := Ak H
  have AT := Ak H
  have MV := Ak (HMoved.of_below g (Below.refl w.heap.size w))
  clear H hf hC hc
  by_cases h2 : r2 = 0
  · subst h2
    go_enter Tryd.func46, Tryd.ntmps46
    go_upto_region 1 with (fail)
    replace AT := Ak (AT.out.on (below_drew (Below.refl _ _)))
    replace MV := Ak (MV.out.trans (HMoved.of_below g (below_drew (Below.refl _ _))))
    refine start_ (n := 15) (S := fun w' => w'.cell? ⟨g, 0, none⟩ = some (.slice A l.length c) ∧ w'.cell? ⟨g, 1, none⟩ = some (.int .i64 N) ∧ w'.cell? ⟨g, 2, none⟩ = some (.int .i64 at_)) (ds := []) #[false, false, false, false, false, false, false, false, false, false, false, false, false, false, false] (by kernel_rfl) rfl rfl ⟨(blk_cell AT.out.blk 0).trans rfl, (blk_cell AT.out.blk 1).trans rfl, (blk_cell AT.out.blk 2).trans rfl⟩ (fun hHeld => ?_)
    generalize w.drew = wd at AT MV hHeld ⊢
    refine pq_ (i := 0) (N := some 8) ?_
    refine pq_ (i := 1) (N := some 9) ?_
    refine pq_ (i := 2) (N := some 10) ?_
    refine pq_ (i := 4) (N := some 12) ?_
    refine pq_ (i := 5) (N := some 13) ?_
    refine pq_ (i := 6) (N := some 14) ?_
    refine pq_ (i := 8) (N := some 16) ?_
    refine tq_ (i := 3) (N := some 11) ?_ hHeld
    refine tq_ (i := 7) (N := some 15) ?_ hHeld
    refine one_ (i := 9) (N := some 17) #[true, true, true, true, true, true, true, true, true, true, false, false, false, false, false] rfl rfl (by kernel_rfl) (by decide) (fun K hK => ?_)
    refine goes_ Tryd.func34 (by kernel_rfl) rfl #[.agg #[.slice A l.length c, .int .i64 N], .int .i64 at_, .int .i64 n] (by rfl) rfl rfl (by simp only [List.map_toArray, List.map_cons, List.map_nil]; rfl) ?_
    with_reducible refine (bits_Get.calls k A c l N at_ n r1 0 _ (Kd.C_below HC.out AT.out.below) HCc.out HF.out).mono ?_
    rintro e w5 ⟨rfl, hb⟩
    refine ⟨_, rfl, ?_⟩
    replace AT := Ak (AT.out.on hb)
    replace MV := Ak (MV.out.trans (HMoved.of_below g hb))
    clear hb
    refine hK.out _ _ ⟨(blk_cell AT.out.blk 0).trans rfl, (blk_cell AT.out.blk 1).trans rfl, (blk_cell AT.out.blk 2).trans rfl⟩ (fun hHeld => ?_)
    clear hK K
    refine norm_ (a' := ?_) ?_ ?_
    rotate_left
    · show Act.put _ (some 17) _ = _
      simp only [Act.put, List.setIfInBounds_toArray, List.set_cons_zero, List.set_cons_succ, i64_w, i32_w, u8_w]
      rfl
    refine pq_ (i := 10) (N := some 7) ?_
    refine pq_ (i := 11) (N := some 18) ?_
    refine pq_ (i := 12) (N := some 19) ?_
    refine pq_ (i := 13) (N := some 5) ?_
    refine pq_ (i := 14) (N := some 6) ?_
    refine done_ (by kernel_rfl) ?_
    have hc2 : w5.cell? ⟨g, 2, none⟩ = some (.int .i64 at_) := (blk_cell AT.out.blk 2).trans rfl
    have hf2 := blk_frozen AT.out.blk 2
    go_wp2_with (go_at_call 47; refine (hmust_zero _ _).mono ?_; rintro e w' ⟨rfl, rfl⟩)
    go_ret
    exact .inl ⟨trivial, rfl, AT.out.setAt _, MV.out.set_ 2 _⟩
  have HN := Ak h2
  clear h2
  go_enter Tryd.func46, Tryd.ntmps46
  go_upto_region 1 with (fail)
  replace AT := Ak (AT.out.on (below_drew (Below.refl _ _)))
  replace MV := Ak (MV.out.trans (HMoved.of_below g (below_drew (Below.refl _ _))))
  refine start_ (n := 15) (S := fun w' => w'.cell? ⟨g, 0, none⟩ = some (.slice A l.length c) ∧ w'.cell? ⟨g, 1, none⟩ = some (.int .i64 N) ∧ w'.cell? ⟨g, 2, none⟩ = some (.int .i64 at_)) (ds := []) #[false, false, false, false, false, false, false, false, false, false, false, false, false, false, false] (by kernel_rfl) rfl rfl ⟨(blk_cell AT.out.blk 0).trans rfl, (blk_cell AT.out.blk 1).trans rfl, (blk_cell AT.out.blk 2).trans rfl⟩ (fun hHeld => ?_)
  generalize w.drew = wd at AT MV hHeld ⊢
  refine pq_ (i := 0) (N := some 8) ?_
  refine pq_ (i := 1) (N := some 9) ?_
  refine pq_ (i := 2) (N := some 10) ?_
  refine pq_ (i := 4) (N := some 12) ?_
  refine pq_ (i := 5) (N := some 13) ?_
  refine pq_ (i := 6) (N := some 14) ?_
  refine pq_ (i := 8) (N := some 16) ?_
  refine tq_ (i := 3) (N := some 11) ?_ hHeld
  refine tq_ (i := 7) (N := some 15) ?_ hHeld
  refine one_ (i := 9) (N := some 17) #[true, true, true, true, true, true, true, true, true, true, false, false, false, false, false] rfl rfl (by kernel_rfl) (by decide) (fun K hK => ?_)
  refine goes_ Tryd.func34 (by kernel_rfl) rfl #[.agg #[.slice A l.length c, .int .i64 N], .int .i64 at_, .int .i64 n] (by rfl) rfl rfl (by simp only [List.map_toArray, List.map_cons, List.map_nil]; rfl) ?_
  with_reducible refine (bits_Get.calls k A c l N at_ n r1 r2 _ (Kd.C_below HC.out AT.out.below) HCc.out HF.out).mono ?_
  rintro e w5 ⟨rfl, hb⟩
  refine ⟨_, rfl, ?_⟩
  replace AT := Ak (AT.out.on hb)
  replace MV := Ak (MV.out.trans (HMoved.of_below g hb))
  clear hb
  refine hK.out _ _ ⟨(blk_cell AT.out.blk 0).trans rfl, (blk_cell AT.out.blk 1).trans rfl, (blk_cell AT.out.blk 2).trans rfl⟩ (fun hHeld => ?_)
  clear hK K
  refine norm_ (a' := ?_) ?_ ?_
  rotate_left
  · show Act.put _ (some 17) _ = _
    simp only [Act.put, List.setIfInBounds_toArray, List.set_cons_zero, List.set_cons_succ, i64_w, i32_w, u8_w]
    rfl
  refine pq_ (i := 10) (N := some 7) ?_
  refine pq_ (i := 11) (N := some 18) ?_
  refine pq_ (i := 12) (N := some 19) ?_
  refine pq_ (i := 13) (N := some 5) ?_
  refine pq_ (i := 14) (N := some 6) ?_
  refine done_ (by kernel_rfl) ?_
  go_wp2_with (go_at_call 47; refine (hmust_else _ r2 HN.out _).mono ?_; rintro e w' ⟨rfl, hb⟩)
  exact ⟨rfl, .inr ⟨HN.out, rfl, (HX.out.between AT.out MV.out.size).trans (hb.mono AT.out.below.size)⟩⟩
end
theorem hbits_told {w0 : World} {A : Option Addr} {c : Nat} {l : List Int} (hr : RowOk w0 A c l) (w : World) (g p n : Nat) (m : Int) (hm : m = (n : Int)) (H : HRdrAt w0 w g A c l (NN l) (p : Int)) (hp : p ≤ 8 * l.length) (hn : n ≤ 32) :
    Calls Tryd.prog 46 #[.pointer (some ⟨g, 0, none⟩), .int .i64 m] w fun e w' => HToldV w0 w g A c l e w' (bitsM l p n) := by
  subst hm
  have hlen := hr.len
  have hf := get_eq (k := 40) (Nat.le_refl _) (l := l) (n := NN l) (a := (p : Int)) (c := (n : Int)) hr.byt (by omega) (by unfold NN; omega) (by unfold NN; omega)
  rw [getS_at hr.byt hp hn] at hf
  unfold bitsM
  by_cases h : p + n ≤ 8 * l.length
  · rw [if_pos h] at hf ⊢
    refine (hbits_calls 40 hr.C hr.cap w g _ _ _ _ _ H hf).mono ?_
    rintro e w' (⟨_, he, hat, hm⟩ | ⟨hne, _⟩)
    · have e1 : wrap64 ((p : Int) + (n : Int)) = ((p + n : Nat) : Int) := by rw [wrap64_id (by omega) (by omega)]; omega
      rw [e1] at hat
      exact ⟨he, h, hat, hm⟩
    exact absurd rfl hne
  rw [if_neg h] at hf ⊢
  refine (hbits_calls 40 hr.C hr.cap w g _ _ _ _ _ H hf).mono ?_
  rintro e w' (⟨h0, _⟩ | ⟨_, hg⟩)
  · exact absurd h0 (by decide)
  exact hg
end Go.Proofs.YtgflkkjhckcipaaDoor.Pr

