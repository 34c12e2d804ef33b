-- Texts by hand and by programs of this session, joined (wip/tool/merge.py).
import Derived.Shelf.Abstract
import Derived.Shelf.RegionOpen
import Derived.OwnWalkIn
import Derived.TacticsInMore
import Derived.LoopNIn
import Derived.LoopIn
import Derived.Test.YtgflkkjhckcipaaGreatDoorMID10
-- YtgflkkjhckcipaaGreatDoorIf10
set_option maxHeartbeats 16000000
set_option maxRecDepth 1000000
namespace Go.Proofs.YtgflkkjhckcipaaGreatDoor.Pr
open Go.RowKit Go.Shelf Go.Proofs.YtgflkkjhckcipaaGreatDoorW.PrintWords Go.Proofs.YtgflkkjhckcipaaGreatDoorW.PrintLast Go.Proofs.YtgflkkjhckcipaaGreatDoorW.PrintMore
set_option linter.unusedVariables false
set_option linter.unusedSimpArgs false
section
attribute [local go_sem] Oper.semAt_some
theorem stored_told {w0 : World} {A : Option Addr} {c : Nat} {l : List Int} (hr : RowOk w0 A c l) (w : World) (g p : Nat) (v : Value) (out : List Int) (most : Int) (H : RdrAt w0 w g A c l (NN l) (p : Int) v out most) (hp : p ≤ 8 * l.length) (hm0 : (out.length : Int) ≤ most) (hm1 : most ≤ 65536) :
    Calls Tryz.prog 18 #[.pointer (some ⟨g, 0, none⟩)] w fun e w' => ToldO w0 w g A c l v most e w' (storedM l most p out) := by
  have hlen := hr.len; obtain ⟨Ao, co, rfl⟩ := Kd.R_slice H.row; have hX := andNot7 p (by omega); rw [wrap64_id (by omega) (by omega)] at hX; have hw7 : wrap64 ((p : Int) + 7) = (p : Int) + 7 := wrap64_id (by omega) (by omega); obtain ⟨p1, hp1⟩ : ∃ p1, (p + 7) / 8 * 8 = p1 := ⟨_, rfl⟩
  have hp1b : p1 ≤ 8 * l.length := by omega
  unfold storedM; rw [hp1] at hX ⊢; have HR := Ak hr; have HX := Ak H; have AT := Ak H; have MV := Ak (Moved.of_below g (.slice Ao out.length co) (Below.refl w.heap.size w)); have huR := Tryz.underlying45; have huB := Tryz.underlying43; have HM0 := Ak hm0; have HM1 := Ak hm1
  cases h1 : bitsM l p1 16 with
  | error er =>
    have H1 := Ak h1; clear h1; go_enter Tryz.func18, Tryz.ntmps18; obtain ⟨hc2, hf2, hc3, hf3⟩ := rdr_c2 AT.out; clear hc3 hf3
    go_upto_region 1 with (fail)
    replace AT := Ak (AT.out.setAt (p1 : Int)); replace MV := Ak (MV.out.set_ 2 (.int .i64 (p1 : Int))); clear hc2 hf2; have HP := Ak hp1b; clear hp1b; generalize w.setCell ⟨g, 2, none⟩ (.int .i64 (p1 : Int)) = w1 at *
    go_wp2_with (go_at_call 17; have hcc := rbits_told' HR.out _ g p1 16 16 rfl (.slice Ao out.length co) out most AT.out HP.out (by decide); rw [H1.out] at hcc; refine hcc.mono ?_; clear hcc; rintro e w' ⟨pp, rfl, hfa, hb⟩)
    exact ⟨rfl, pp, rfl, hfa, (HX.out.between AT.out MV.out.size).trans hb⟩
  | ok r1 => ?_
  obtain ⟨x, p2⟩ := r1; dsimp only; obtain ⟨hxv, hp2, hp2b⟩ := bitsM_ok h1; have hxb := getV_bound l p1 16 (by decide); have hxr := getV_range l p1 16; rw [← hxv] at hxb hxr; have hx16 : x < 65536 := hxr.2; have H1 := Ak h1; clear h1 hxv
  cases h2 : bitsM l p2 16 with
  | error er =>
    have H2 := Ak h2; clear h2 hxb hxr hx16 hp2 hp2b; go_enter Tryz.func18, Tryz.ntmps18; obtain ⟨hc2, hf2, hc3, hf3⟩ := rdr_c2 AT.out; clear hc3 hf3
    go_upto_region 1 with (fail)
    replace AT := Ak (AT.out.setAt (p1 : Int)); replace MV := Ak (MV.out.set_ 2 (.int .i64 (p1 : Int))); clear hc2 hf2; have HP := Ak hp1b; clear hp1b; generalize w.setCell ⟨g, 2, none⟩ (.int .i64 (p1 : Int)) = w1 at *
    go_wp2_with (first | (go_at_call 17; have hcc := rbits_told' HR.out _ g p1 16 16 rfl (.slice Ao out.length co) out most AT.out HP.out (by decide); rw [H1.out] at hcc; refine hcc.mono ?_; clear hcc; rintro e w' ⟨rfl, hq_, hat_, hm_⟩; replace AT := Ak hat_; replace MV := Ak (MV.out.trans hm_); replace HP := Ak hq_; clear hat_ hm_ hq_; clear H1) | (go_at_call 17; have hcc := rbits_told' HR.out _ g p2 16 16 rfl (.slice Ao out.length co) out most AT.out HP.out (by decide); rw [H2.out] at hcc; refine hcc.mono ?_; clear hcc; rintro e w' ⟨pp, rfl, hfa, hb⟩))
    exact ⟨rfl, pp, rfl, hfa, (HX.out.between AT.out MV.out.size).trans hb⟩
  | ok r2 => ?_
  obtain ⟨y, p3⟩ := r2; obtain ⟨hyv, hp3, hp3b⟩ := bitsM_ok h2; have H2 := Ak h2; clear h2 hyv; have hxo := xor16 x hxb.1 hx16; dsimp only
  by_cases hne : y ≠ 65535 - x
  · rw [if_pos hne]; have q0 : (y != 65535 - x) = true := bne_iff_ne.2 hne; clear hxb hxr hx16 hp2 hp2b hp3 hp3b hne; go_enter Tryz.func18, Tryz.ntmps18; obtain ⟨hc2, hf2, hc3, hf3⟩ := rdr_c2 AT.out; clear hc3 hf3
    go_upto_region 1 with (fail)
    replace AT := Ak (AT.out.setAt (p1 : Int)); replace MV := Ak (MV.out.set_ 2 (.int .i64 (p1 : Int))); clear hc2 hf2; have HP := Ak hp1b; clear hp1b; generalize w.setCell ⟨g, 2, none⟩ (.int .i64 (p1 : Int)) = w1 at *
    go_wp2_with (first | (go_at_call 17; have hcc := rbits_told' HR.out _ g p1 16 16 rfl (.slice Ao out.length co) out most AT.out HP.out (by decide); rw [H1.out] at hcc; refine hcc.mono ?_; clear hcc; rintro e w' ⟨rfl, hq_, hat_, hm_⟩; replace AT := Ak hat_; replace MV := Ak (MV.out.trans hm_); replace HP := Ak hq_; clear hat_ hm_ hq_; clear H1) | (go_at_call 17; have hcc := rbits_told' HR.out _ g p2 16 16 rfl (.slice Ao out.length co) out most AT.out HP.out (by decide); rw [H2.out] at hcc; refine hcc.mono ?_; clear hcc; rintro e w' ⟨rfl, hq_, hat_, hm_⟩; replace AT := Ak hat_; replace MV := Ak (MV.out.trans hm_); replace HP := Ak hq_; clear hat_ hm_ hq_; clear H2) | (go_at_call 21; refine (stop_calls 5 _).mono ?_; rintro e w' ⟨pp, rfl, hfa, hb⟩))
    exact ⟨rfl, pp, rfl, hfa, (HX.out.between AT.out MV.out.size).trans (hb.mono AT.out.below.size)⟩
  rw [if_neg hne]; have hy : y = 65535 - x := Decidable.not_not.1 hne
  have q0 : (y != 65535 - x) = false := by rw [hy]; exact bne_self_eq_false _
  clear hne
  by_cases hrm : x > most - (out.length : Int)
  · rw [if_pos hrm]; have HRm := Ak hrm; clear hxb hxr hx16 hp2 hp2b hp3 hp3b hrm hy; go_enter Tryz.func18, Tryz.ntmps18; obtain ⟨hc2, hf2, hc3, hf3⟩ := rdr_c2 AT.out; clear hc3 hf3
    go_upto_region 1 with (fail)
    replace AT := Ak (AT.out.setAt (p1 : Int)); replace MV := Ak (MV.out.set_ 2 (.int .i64 (p1 : Int))); clear hc2 hf2; have HP := Ak hp1b; clear hp1b; generalize w.setCell ⟨g, 2, none⟩ (.int .i64 (p1 : Int)) = w1 at *
    go_wp2_with (first | (go_at_call 17; have hcc := rbits_told' HR.out _ g p1 16 16 rfl (.slice Ao out.length co) out most AT.out HP.out (by decide); rw [H1.out] at hcc; refine hcc.mono ?_; clear hcc; rintro e w' ⟨rfl, hq_, hat_, hm_⟩; replace AT := Ak hat_; replace MV := Ak (MV.out.trans hm_); replace HP := Ak hq_; clear hat_ hm_ hq_; clear H1) | (go_at_call 17; have hcc := rbits_told' HR.out _ g p2 16 16 rfl (.slice Ao out.length co) out most AT.out HP.out (by decide); rw [H2.out] at hcc; refine hcc.mono ?_; clear hcc; rintro e w' ⟨rfl, hq_, hat_, hm_⟩; replace AT := Ak hat_; replace MV := Ak (MV.out.trans hm_); replace HP := Ak hq_; clear hat_ hm_ hq_; clear H2) | (go_at_call 32; refine (room_full HR.out _ g _ (.slice Ao out.length co) out most x AT.out HM0.out HM1.out HRm.out).mono ?_; rintro e w' ⟨pp, rfl, hfa, hb⟩))
    exact ⟨rfl, pp, rfl, hfa, (HX.out.between AT.out MV.out.size).trans hb⟩
  rw [if_neg hrm]; have HRm := Ak hrm; have HP3 := Ak hp3b; have HX16 := Ak (And.intro hxb.1 hx16); clear hrm hy
  by_cases hsh : (8 * l.length - p3) / 8 < x.toNat
  · rw [if_pos hsh]; have q5 := eq_true (show wrap64 (8 * (l.length : Int) - (p3 : Int)) / 8 < x by rw [wrap64_id (by omega) (by omega)]; omega); clear hxb hxr hx16 hp2 hp2b hp3 hp3b hsh; go_enter Tryz.func18, Tryz.ntmps18; obtain ⟨hc2, hf2, hc3, hf3⟩ := rdr_c2 AT.out; clear hc3 hf3
    go_upto_region 1 with (fail)
    replace AT := Ak (AT.out.setAt (p1 : Int)); replace MV := Ak (MV.out.set_ 2 (.int .i64 (p1 : Int))); clear hc2 hf2; have HP := Ak hp1b; clear hp1b; generalize w.setCell ⟨g, 2, none⟩ (.int .i64 (p1 : Int)) = w1 at *
    go_upto_region 5 with (first | (go_at_call 17; have hcc := rbits_told' HR.out _ g p1 16 16 rfl (.slice Ao out.length co) out most AT.out HP.out (by decide); rw [H1.out] at hcc; refine hcc.mono ?_; clear hcc; rintro e w' ⟨rfl, hq_, hat_, hm_⟩; replace AT := Ak hat_; replace MV := Ak (MV.out.trans hm_); replace HP := Ak hq_; clear hat_ hm_ hq_; clear H1) | (go_at_call 17; have hcc := rbits_told' HR.out _ g p2 16 16 rfl (.slice Ao out.length co) out most AT.out HP.out (by decide); rw [H2.out] at hcc; refine hcc.mono ?_; clear hcc; rintro e w' ⟨rfl, hq_, hat_, hm_⟩; replace AT := Ak hat_; replace MV := Ak (MV.out.trans hm_); replace HP := Ak hq_; clear hat_ hm_ hq_; clear H2) | (go_at_call 32; refine (room_ok HR.out _ g _ (.slice Ao out.length co) out most x AT.out HM0.out HM1.out (by have := HRm.out; omega)).mono ?_; rintro e w' ⟨rfl, hb⟩; replace AT := Ak (AT.out.on hb); replace MV := Ak (MV.out.trans (Moved.of_below g _ hb)); clear hb; clear HRm))
    replace AT := Ak (AT.out.on (below_drew (Below.refl _ _))); replace MV := Ak (MV.out.trans (Moved.of_below g _ (below_drew (Below.refl _ _)))); refine sq 13 (S := fun w' => w'.cell? ⟨g, 1, none⟩ = some (.int .i64 (NN l)) ∧ w'.cell? ⟨g, 2, none⟩ = some (.int .i64 (p3 : Int))) (ds := []) ⟨(blk_cell AT.out.blk 1).trans rfl, (blk_cell AT.out.blk 2).trans rfl⟩ fun hHeld => ?_; generalize w'.drew = wd at AT MV hHeld ⊢; refine pq 0 23 ?_; refine pq 1 24 ?_; refine pq 2 25 ?_; refine pq 3 26 ?_; refine pq 5 28 ?_; refine pq 6 29 ?_; refine pq 7 30 ?_; refine pq 11 34 ?_; refine tq 4 27 ?_ hHeld; refine tq 8 31 ?_ hHeld; refine pq 9 32 ?_; refine pq 10 33 ?_; refine pq 12 35 ?_; refine dq ?_
    go_wp2_with (go_at_call 21; refine (stop_calls 4 _).mono ?_; rintro e w' ⟨pp, rfl, hfa, hb⟩)
    exact ⟨rfl, pp, rfl, hfa, (HX.out.between AT.out MV.out.size).trans (hb.mono AT.out.below.size)⟩
  rw [if_neg hsh]; have q5 := eq_false (show ¬ wrap64 (8 * (l.length : Int) - (p3 : Int)) / 8 < x by rw [wrap64_id (by omega) (by omega)]; omega)
  have hle : p3 / 8 + x.toNat ≤ l.length := by omega
  obtain ⟨i0, hi0, _, hsz0, _⟩ := info_parts Hu.info5
  have hd8 : ((p3 : Int) / 8).toNat = p3 / 8 := by omega
  have hcutA := cut_from (P := Tryz.prog) 22 5 .i64 Tryz.underlying22 hi0 1 hsz0 A l.length c ((p3 : Int) / 8) (by omega) (by omega); rw [hd8] at hcutA; have hcd := Kd.C_drop (m := p3 / 8) (c := c) hr.C (by omega) hr.cap
  have hlt : ((l.drop (p3 / 8)).take x.toNat).length = x.toNat := by rw [List.length_take, List.length_drop]; omega
  have hct := Kd.C_take (m := x.toNat) hcd (by rw [List.length_drop]; omega); rw [hlt] at hct; obtain ⟨A2, hA2⟩ : ∃ A2, A2 = (if c = p3 / 8 then A else A.map (·.add (p3 / 8 * 1))) := ⟨_, rfl⟩
  replace hct : Kd.C (Kd.int .u8) w0 A2 x.toNat ((l.drop (p3 / 8)).take x.toNat) := by rw [hA2]; exact hct
  rw [← hA2] at hcutA; have hcutB := cut_to (P := Tryz.prog) 22 5 .i64 Tryz.underlying22 hi0 A2 (l.length - p3 / 8) (c - p3 / 8) x (by omega) (by omega) (by have := hr.cap; omega); have HC2 := Ak hct; obtain ⟨p4, hp4⟩ : ∃ p4, p4 = p3 + 8 * x.toNat := ⟨_, rfl⟩; rw [← hp4]; have HX8 := Ak (show wrap64 ((p3 : Int) + wrap64 (8 * x)) = (p4 : Int) by rw [wrap64_id (x := 8 * x) (by omega) (by omega), wrap64_id (by omega) (by omega)]; omega); have HLE := Ak (show p4 ≤ 8 * l.length by omega); clear hxb hxr hx16 hp2 hp2b hp3 hp3b hsh hct hcd hA2 hle hlt hd8 hsz0 hp4; go_enter Tryz.func18, Tryz.ntmps18; obtain ⟨hc2, hf2, hc3, hf3⟩ := rdr_c2 AT.out; clear hc3 hf3
  go_upto_region 1 with (fail)
  replace AT := Ak (AT.out.setAt (p1 : Int)); replace MV := Ak (MV.out.set_ 2 (.int .i64 (p1 : Int))); clear hc2 hf2; have HP := Ak hp1b; clear hp1b; generalize w.setCell ⟨g, 2, none⟩ (.int .i64 (p1 : Int)) = w1 at *
  go_upto_region 5 with (first | (go_at_call 17; have hcc := rbits_told' HR.out _ g p1 16 16 rfl (.slice Ao out.length co) out most AT.out HP.out (by decide); rw [H1.out] at hcc; refine hcc.mono ?_; clear hcc; rintro e w' ⟨rfl, hq_, hat_, hm_⟩; replace AT := Ak hat_; replace MV := Ak (MV.out.trans hm_); replace HP := Ak hq_; clear hat_ hm_ hq_; clear H1) | (go_at_call 17; have hcc := rbits_told' HR.out _ g p2 16 16 rfl (.slice Ao out.length co) out most AT.out HP.out (by decide); rw [H2.out] at hcc; refine hcc.mono ?_; clear hcc; rintro e w' ⟨rfl, hq_, hat_, hm_⟩; replace AT := Ak hat_; replace MV := Ak (MV.out.trans hm_); replace HP := Ak hq_; clear hat_ hm_ hq_; clear H2) | (go_at_call 32; refine (room_ok HR.out _ g _ (.slice Ao out.length co) out most x AT.out HM0.out HM1.out (by have := HRm.out; omega)).mono ?_; rintro e w' ⟨rfl, hb⟩; replace AT := Ak (AT.out.on hb); replace MV := Ak (MV.out.trans (Moved.of_below g _ hb)); clear hb; clear HRm))
  replace AT := Ak (AT.out.on (below_drew (Below.refl _ _))); replace MV := Ak (MV.out.trans (Moved.of_below g _ (below_drew (Below.refl _ _)))); refine sq 13 (S := fun w' => w'.cell? ⟨g, 1, none⟩ = some (.int .i64 (NN l)) ∧ w'.cell? ⟨g, 2, none⟩ = some (.int .i64 (p3 : Int))) (ds := []) ⟨(blk_cell AT.out.blk 1).trans rfl, (blk_cell AT.out.blk 2).trans rfl⟩ fun hHeld => ?_; generalize w'.drew = wd at AT MV hHeld ⊢; refine pq 0 23 ?_; refine pq 1 24 ?_; refine pq 2 25 ?_; refine pq 3 26 ?_; refine pq 5 28 ?_; refine pq 6 29 ?_; refine pq 7 30 ?_; refine pq 11 34 ?_; refine tq 4 27 ?_ hHeld; refine tq 8 31 ?_ hHeld; refine pq 9 32 ?_; refine pq 10 33 ?_; refine pq 12 35 ?_; refine dq ?_
  go_upto_region 7 with (fail)
  have BG := Ak AT.out.blk; replace AT := Ak (AT.out.on (below_drew (Below.refl _ _))); replace MV := Ak (MV.out.trans (Moved.of_below g _ (below_drew (Below.refl _ _)))); replace BG := Ak (blk_drew BG.out); refine sq 22 (S := fun w' => w'.cell? ⟨g, 0, none⟩ = some (.slice A l.length c) ∧ w'.cell? ⟨g, 2, none⟩ = some (.int .i64 (p3 : Int)) ∧ w'.cell? ⟨g, 3, none⟩ = some ((.slice Ao out.length co))) (ds := [21]) ⟨(blk_cell BG.out 0).trans rfl, (blk_cell BG.out 2).trans rfl, (blk_cell BG.out 3).trans rfl⟩ fun hHeld => ?_; generalize wd.drew = we at AT MV BG hHeld ⊢; refine pq 0 37 ?_; refine pq 1 38 ?_; refine pq 2 39 ?_; refine pq 3 40 ?_; refine pq 5 42 ?_; refine pq 6 43 ?_; refine pq 7 44 ?_; refine pq 8 45 ?_; refine pq 10 47 ?_; refine pq 11 48 ?_; refine pq 12 49 ?_; refine pq 16 53 ?_; refine tq 4 41 ?_ hHeld; refine tq 9 46 ?_ hHeld; refine tq 13 50 ?_ hHeld; refine pq 14 51 ?_; refine pq 15 52 ?_; refine pq 17 54 ?_; refine oq 18 55 fun K hK => ?_; refine Kd.R_append_rows_step (Kd.int .u8) (w0 := w0) w0.heap.size (by rfl) (.tmp 41) (.tmp 54) 22 5 (.int .u8 0) 1 rfl Tryz.underlying22 Hu.info5 rfl (by decide) (by omega) (.slice Ao out.length co) out ((l.drop (p3 / 8)).take x.toNat) _ _ _ (fun _ => True) (fun _ => False) rfl rfl AT.out.row (Kd.C_below HC2.out AT.out.below) (fun _ _ h => h) (fun _ h => h.elim) (fun _ _ => trivial) AT.out.below AT.out.below.size ?aL ?_
  (case aL => have h1_ := HM0.out; have h2_ := HM1.out; have h3_ := HX16.out; omega)
  intro v1 w6 ho hb hg hat; obtain ⟨ys, hys⟩ : ∃ ys, ys = out ++ (l.drop (p3 / 8)).take x.toNat := ⟨_, rfl⟩; rw [← hys] at ho; have HYS := Ak hys; clear hys; obtain ⟨A1, c1, ev⟩ := Kd.R_slice ho; subst ev; have hap := AT.out.appended ho hb hg hat; have hbg := blk_grown BG.out hg (Kd.R_ne AT.out.row AT.out.blk (by decide)); replace BG := Ak (hbg); replace AP := Ak (hap); clear hbg hap ho hb hg hat; refine hK.out _ _ ⟨(blk_cell BG.out 0).trans rfl, (blk_cell BG.out 2).trans rfl, (blk_cell BG.out 3).trans rfl⟩ (fun hHeld => ?_); clear hK K; refine nq 55 ?_; refine pq 19 56 ?_; refine pq 20 57 ?_; refine lq 21 fun K hK => ?_; have hz := ((blk_cell BG.out 3).trans rfl : w6.cell? ⟨g, 3, none⟩ = some (.slice Ao out.length co)); have hf := blk_frozen BG.out 3; refine skip_ (w1 := ?_) (by rfl) rfl ?_ ?_; rotate_left
  · go_simp
    rfl
  refine hK.out _ _ ?_; clear hK K; refine dq ?_; clear hz hf hHeld BG; generalize w6.setCell ⟨g, 3, none⟩ (.slice A1 ys.length c1) = w7 at AP ⊢; obtain ⟨hc2, hf2, hc3, hf3⟩ := rdr_c2 AP.out.1; clear hc3 hf3; have hx8 := HX8.out; go_wp2
  go_end0
  rw [← HYS.out]; exact ⟨rfl, HLE.out, _, AP.out.1.setAt _, (MV.out.trans AP.out.2).set_ 2 _⟩
end
-- YtgflkkjhckcipaaGreatDoorIf11
theorem lenBits_all : ∀ i : Fin 288, symbol_LenBits.f 60 (i.val : Int) = some (match lenP (i.val : Int) with | some (k, _) => ((k : Int), 0) | none => (0, 13)) := by decide +kernel
theorem distBits_all : ∀ i : Fin 288, symbol_DistBits.f 60 (i.val : Int) = some (match distP (i.val : Int) with | some (k, _) => ((k : Int), 0) | none => (0, 13)) := by decide +kernel
theorem lenBits_eq {s : Int} (h0 : 0 ≤ s) (h1 : s < 288) : symbol_LenBits.f 60 s = some (match lenP s with | some (k, _) => ((k : Int), 0) | none => (0, 13)) := by
  have h := lenBits_all ⟨s.toNat, by omega⟩
  rwa [show ((s.toNat : Nat) : Int) = s by omega] at h
theorem distBits_eq {s : Int} (h0 : 0 ≤ s) (h1 : s < 288) : symbol_DistBits.f 60 s = some (match distP s with | some (k, _) => ((k : Int), 0) | none => (0, 13)) := by
  have h := distBits_all ⟨s.toNat, by omega⟩
  rwa [show ((s.toNat : Nat) : Int) = s by omega] at h
def lenOfOk (s : Int) : Bool := match lenP s with
  | none => true
  | some (k, b) => decide (k ≤ 5) && decide (3 ≤ b) && decide (b + 2 ^ k ≤ 259) && (if s = 285 then decide (k = 0) && decide (b = 258) && (symbol_kind_place.f 60 257 8 4 5 3 s).isSome && (symbol_kind_top.f 257 8 4 5 3 s == some true) else (symbol_kind_place.f 60 257 8 4 5 3 s == some ((k : Int), (b : Int), true)) && (symbol_kind_top.f 257 8 4 5 3 s == some false))
def distOfOk (s : Int) : Bool := match distP s with
  | none => true
  | some (k, b) => decide (k ≤ 13) && decide (1 ≤ b) && decide (b + 2 ^ k ≤ 32769) && (symbol_kind_place.f 60 0 4 2 13 1 s == some ((k : Int), (b : Int), true)) && (symbol_kind_top.f 0 4 2 13 1 s == some false)
theorem lenOf_all : ∀ i : Fin 288, lenOfOk (i.val : Int) = true := by decide +kernel
theorem distOf_all : ∀ i : Fin 288, distOfOk (i.val : Int) = true := by decide +kernel
theorem kind_j0 {k b : Nat} {v : Int} (hk : k ≤ 13) (hb : b ≤ 40000) (h0 : 0 ≤ v) (h1 : v < 2 ^ k) (z : Int × Int × Bool) (hz : z = ((k : Int), (b : Int), true)) : symbol_kind_of.j0 60 v z.1 z.2.1 z.2.2 = some ((b : Int) + v, 0) := by
  subst hz; have h2 : (2 : Int) ^ k ≤ 2 ^ 13 := pow_le2 hk
  show symbol_kind_of.j0 (59 + 1) v (k : Int) (b : Int) true = _
  rw [symbol_kind_of.j0, if_pos rfl, if_neg (by omega), if_pos (by omega), shr_eq v k (by omega), if_pos (div_small h0 h1), wrap64_id (by omega) (by omega)]
theorem lenOf_eq {s : Int} {k b : Nat} {v : Int} (h0 : 0 ≤ s) (h1 : s < 288) (hp : lenP s = some (k, b)) (hv0 : 0 ≤ v) (hv1 : v < 2 ^ k) : symbol_LenOf.f 60 s v = some ((b : Int) + v, 0) ∧ k ≤ 5 ∧ 3 ≤ b ∧ b + 2 ^ k ≤ 259 := by
  have h := lenOf_all ⟨s.toNat, by omega⟩; rw [show ((s.toNat : Nat) : Int) = s by omega] at h; unfold lenOfOk at h; rw [hp] at h; simp only [Bool.and_eq_true, decide_eq_true_eq] at h; obtain ⟨⟨⟨h2, h3⟩, h4⟩, h5⟩ := h; refine ⟨?_, h2, h3, h4⟩; unfold symbol_LenOf.f symbol_lens.f symbol_kind_of.f; simp only [Option.bind_some]
  by_cases e : s = 285
  · rw [if_pos e] at h5; simp only [Bool.and_eq_true, decide_eq_true_eq, beq_iff_eq] at h5; obtain ⟨⟨⟨rfl, rfl⟩, h6⟩, h7⟩ := h5; obtain ⟨q, hq⟩ := Option.isSome_iff_exists.1 h6; rw [hq, h7]; simp only [Option.bind_some]; rw [if_pos trivial]; have := kind_j0 (k := 0) (b := 258) (by omega) (by omega) hv0 hv1 (0, 258, true) rfl; dsimp only at this; rw [this]
    rfl
  rw [if_neg e] at h5; simp only [Bool.and_eq_true, beq_iff_eq] at h5; rw [h5.1, h5.2]; simp only [Option.bind_some]; rw [if_neg (by decide)]; have hb : b ≤ 40000 := Nat.le_trans (Nat.le_trans (Nat.le_add_right b _) h4) (by decide); have := kind_j0 (k := k) (b := b) (by omega) hb hv0 hv1 _ rfl; dsimp only at this; rw [this]
  rfl
theorem distOf_eq {s : Int} {k b : Nat} {v : Int} (h0 : 0 ≤ s) (h1 : s < 288) (hp : distP s = some (k, b)) (hv0 : 0 ≤ v) (hv1 : v < 2 ^ k) : symbol_DistOf.f 60 s v = some ((b : Int) + v, 0) ∧ k ≤ 13 ∧ 1 ≤ b ∧ b + 2 ^ k ≤ 32769 := by
  have h := distOf_all ⟨s.toNat, by omega⟩; rw [show ((s.toNat : Nat) : Int) = s by omega] at h; unfold distOfOk at h; rw [hp] at h; simp only [Bool.and_eq_true, decide_eq_true_eq, beq_iff_eq] at h; obtain ⟨⟨⟨⟨h2, h3⟩, h4⟩, h5⟩, h6⟩ := h; refine ⟨?_, h2, h3, h4⟩; unfold symbol_DistOf.f symbol_dists.f symbol_kind_of.f; simp only [Option.bind_some]; rw [h5, h6]; simp only [Option.bind_some]; rw [if_neg (by decide)]; have hb : b ≤ 40000 := Nat.le_trans (Nat.le_trans (Nat.le_add_right b _) h4) (by decide); have := kind_j0 (k := k) (b := b) h2 hb hv0 hv1 _ rfl; dsimp only at this; rw [this]
  rfl
theorem symsS_bound (z : List Int) (i : Int) (hz : 1 ≤ z.length) : 0 ≤ rd (Hu.symsS z) i ∧ rd (Hu.symsS z) i < (z.length : Int) := by
  unfold rd; rw [List.getD_eq_getElem?_getD]
  cases h : (Hu.symsS z)[i.toNat]? with
  | none => exact ⟨Int.le_refl _, by show (0 : Int) < _; omega⟩
  | some x => ?_
  have hm : x ∈ Hu.symsS z := List.mem_of_getElem? h; have hm2 : x ∈ Hu.symsL z := (Hu.byKey_mem.1 hm).1; unfold Hu.symsL at hm2; obtain ⟨y, hy, rfl⟩ := List.mem_map.1 hm2; have := (Hu.usedL_mem hy).1
  show 0 ≤ (y.1 : Int) ∧ (y.1 : Int) < _
  omega
theorem scan_sym (z b : List Int) (m : Nat) (hz : 1 ≤ z.length) : ∀ d p v, 0 ≤ (scan z b m d p v).1 ∧ (scan z b m d p v).1 < (z.length : Int)
  | 0, p, v => ⟨Int.le_refl _, by show (0 : Int) < _; omega⟩
  | d + 1, p, v => by
    unfold scan
    split
    · exact ⟨Int.le_refl _, by show (0 : Int) < _; omega⟩
    · split
      · exact symsS_bound z _ hz
      · split
        · exact ⟨Int.le_refl _, by show (0 : Int) < _; omega⟩
        · exact scan_sym z b m hz d _ _
theorem symM_ok {l z : List Int} {p : Nat} {s : Int} {p1 : Nat} (hz : OKL z) (hp : p ≤ 8 * l.length) (h : symM l (some z) p = .ok (s, p1)) : 0 ≤ s ∧ s < 288 ∧ s < (z.length : Int) ∧ p < p1 ∧ p1 ≤ 8 * l.length := by
  have h1 := scan_sym z l (8 * l.length) hz.1 15 p 0; have h2 := scan_place z l (8 * l.length) 15 p 0 (by omega) hp; have hz2 := hz.2.1; unfold symM at h; dsimp only at h; generalize scan z l (8 * l.length) 15 p 0 = r at *; split at h
  · next h0 =>
    obtain ⟨q, e, h3, h4⟩ := h2 h0
    injection h with h
    injection h with e1 e2
    rw [e, Int.toNat_natCast] at e2; subst e1 e2
    omega
  cases h
-- YtgflkkjhckcipaaGreatDoorIf12
theorem CodeIn.same {w w' : World} {pv : Value} {t : Option (List Int)} (h : CodeIn w pv t) (hk : ∀ gt cl ss, TabIn w gt cl ss → TabIn w' gt cl ss) : CodeIn w' pv t := by
  unfold CodeIn at h ⊢; split at h
  · trivial
  · exact ⟨h.1, h.2.1, hk _ _ _ h.2.2⟩
  exact h
theorem CodeIn.on {w w' : World} {pv : Value} {t : Option (List Int)} (h : CodeIn w pv t) (hb : Below w.heap.size w w') : CodeIn w' pv t := h.same fun _ _ _ hT => hT.on hb
theorem CodeIn.moved {w0 w w' : World} {g c : Nat} {A : Option Addr} {l : List Int} {N at_ : Int} {v v' : Value} {out : List Int} {most : Int} {pv : Value} {t : Option (List Int)} (h : CodeIn w pv t) (H : RdrAt w0 w g A c l N at_ v out most) (hm : Moved w w' g v v') : CodeIn w' pv t := h.same fun _ _ _ hT => hT.moved H hm
theorem copyL_len (out : List Int) (far : Nat) : ∀ n, (copyL out far n).length = out.length + n
  | 0 => rfl
  | n + 1 => by
    show (copyL out far n ++ [_]).length = _
    rw [List.length_append, copyL_len out far n, List.length_singleton]
    omega
theorem val_next (k : Nat) (h : k < 1000000000) : Value.int .i64 (wrap64 ((k : Int) + 1)) = Value.int .i64 ((k + 1 : Nat) : Int) := by
  rw [wrap64_id (by omega) (by omega), show (k : Int) + 1 = ((k + 1 : Nat) : Int) by omega]
theorem nat_next (k : Nat) (h : k < 1000000000) : (intOf (Value.int .i64 (wrap64 ((k : Int) + 1)))).toNat = k + 1 := by
  rw [val_next k h]
  rfl
section
attribute [local go_sem] Oper.semAt_some
theorem rsym_any {w0 : World} {A : Option Addr} {c : Nat} {l : List Int} (hr : RowOk w0 A c l) (w : World) (g p : Nat) (pv : Value) (t : Option (List Int)) (v : Value) (out : List Int) (most : Int) (H : RdrAt w0 w g A c l (NN l) (p : Int) v out most) (hp : p ≤ 8 * l.length) (hT : CodeIn w pv t) :
    Calls Tryz.prog 44 #[.pointer (some ⟨g, 0, none⟩), pv] w fun e w' => ToldV w0 w g A c l v out most e w' (symM l t p) := by
  unfold CodeIn at hT; split at hT
  · exact rsym_none hr w g p v out most H
  · next a z =>
    obtain ⟨h1, h2, h3⟩ := hT; have := rsym_told hr w g p a.block z v out most H hp h1 h3; rw [← h2] at this; exact this
  exact hT.elim
theorem copied_told {w0 : World} {A : Option Addr} {c : Nat} {l : List Int} (hr : RowOk w0 A c l) (w : World) (g p : Nat) (v : Value) (out : List Int) (most : Int) (pv : Value) (dist : Option (List Int)) (H : RdrAt w0 w g A c l (NN l) (p : Int) v out most) (hp : p ≤ 8 * l.length) (hm0 : (out.length : Int) ≤ most) (hm1 : most ≤ 65536) (hD : CodeIn w pv dist) (s : Int) (hs0 : 0 ≤ s) (hs1 : s < 288) (hdz : ∀ z, dist = some z → OKL z) :
    Calls Tryz.prog 45 #[.pointer (some ⟨g, 0, none⟩), .int .i64 s, pv] w fun e w' => ToldO w0 w g A c l v most e w' (copiedM l most dist s p out) := by
  obtain ⟨Ao, co, rfl⟩ := Kd.R_slice H.row; have hlb := lenBits_eq hs0 hs1; unfold copiedM; have HR := Ak hr; have HX := Ak H; have AT := Ak H; have MV := Ak (Moved.of_below g (.slice Ao out.length co) (Below.refl w.heap.size w)); have HP := Ak hp; have huR := Tryz.underlying45; have huB := Tryz.underlying43; have HD := Ak hD; have HM0 := Ak hm0; have HM1 := Ak hm1; clear H hp hD hm0 hm1 hr
  cases hlp : lenP s with
  | none =>
    rw [hlp] at hlb; have HLB := Ak hlb; clear hlb hlp; go_enter Tryz.func45, Tryz.ntmps45
    go_wp2_with (first | (go_at_call 64; refine (symbol_LenBits.calls 60 s 0 13 _ HLB.out).mono ?_; rintro e w' ⟨rfl, hb⟩; replace AT := Ak (AT.out.on hb); replace MV := Ak (MV.out.trans (Moved.of_below g _ hb)); replace HD := Ak (HD.out.on hb); clear hb; clear HLB) | (go_at_call 31; refine (must_else 13 (by decide) _).mono ?_; rintro e w' ⟨pp, rfl, hfa, hb⟩))
    exact ⟨rfl, pp, rfl, hfa, (HX.out.between AT.out MV.out.size).trans (hb.mono AT.out.below.size)⟩
  | some kb => ?_
  obtain ⟨k, base⟩ := kb; rw [hlp] at hlb; have HLB := Ak hlb; have hk5 : k ≤ 5 := (lenOf_eq hs0 hs1 hlp (v := 0) (Int.le_refl _) (pow_pos2 k)).2.1; have hb3 := (lenOf_eq hs0 hs1 hlp (v := 0) (Int.le_refl _) (pow_pos2 k)).2.2; have HK := Ak hk5; clear hlb; dsimp only
  cases h1 : bitsM l p k with
  | error er =>
    have H1 := Ak h1; clear h1 hlp hk5 hb3; go_enter Tryz.func45, Tryz.ntmps45
    go_wp2_with (first | (go_at_call 64; refine (symbol_LenBits.calls 60 s (k : Int) 0 _ HLB.out).mono ?_; rintro e w' ⟨rfl, hb⟩; replace AT := Ak (AT.out.on hb); replace MV := Ak (MV.out.trans (Moved.of_below g _ hb)); replace HD := Ak (HD.out.on hb); clear hb; clear HLB) | (go_at_call 31; refine (must_zero _).mono ?_; rintro e w' ⟨rfl, hw_⟩; subst hw_) | (go_at_call 17; have hcc := rbits_told HR.out _ g p k (.slice Ao out.length co) out most AT.out HP.out (by have := HK.out; omega); rw [H1.out] at hcc; refine hcc.mono ?_; clear hcc; rintro e w' ⟨pp, rfl, hfa, hb⟩))
    exact ⟨rfl, pp, rfl, hfa, (HX.out.between AT.out MV.out.size).trans hb⟩
  | ok r1 => ?_
  obtain ⟨x, p1⟩ := r1; obtain ⟨hxv, hp1, hp1b⟩ := bitsM_ok h1; have hxr := getV_range l p k; rw [← hxv] at hxr; obtain ⟨n, hn⟩ : ∃ n, n = base + x.toNat := ⟨_, rfl⟩
  have hnI : (base : Int) + x = (n : Int) := by omega
  have hlo := (lenOf_eq hs0 hs1 hlp hxr.1 hxr.2).1; rw [hnI] at hlo; have HLO := Ak hlo; clear hlo; have HP1 := Ak (show p1 ≤ 8 * l.length by omega)
  have HXB := Ak (show n ≤ 258 ∧ 3 ≤ n from by
    have h2 : ((2 ^ k : Nat) : Int) = (2 : Int) ^ k := by simp
    have h3 := hb3.2
    omega)
  have H1 := Ak h1; dsimp only; rw [← hn]; clear h1 hxv hp1 hp1b hxr hlp hk5 hb3 hnI hn
  cases h2 : symM l dist p1 with
  | error er =>
    have H2 := Ak h2; clear h2; go_enter Tryz.func45, Tryz.ntmps45
    go_wp2_with (first | (go_at_call 64; refine (symbol_LenBits.calls 60 s (k : Int) 0 _ HLB.out).mono ?_; rintro e w' ⟨rfl, hb⟩; replace AT := Ak (AT.out.on hb); replace MV := Ak (MV.out.trans (Moved.of_below g _ hb)); replace HD := Ak (HD.out.on hb); clear hb; clear HLB) | (go_at_call 31; refine (must_zero _).mono ?_; rintro e w' ⟨rfl, hw_⟩; subst hw_) | (go_at_call 17; have hcc := rbits_told HR.out _ g p k (.slice Ao out.length co) out most AT.out HP.out (by have := HK.out; omega); rw [H1.out] at hcc; refine hcc.mono ?_; clear hcc; rintro e w' ⟨rfl, hq_, hat_, hm_⟩; replace MV := Ak (MV.out.trans hm_); replace HP := Ak hq_; replace HD := Ak (HD.out.moved AT.out hm_); replace AT := Ak hat_; clear hat_ hm_ hq_; clear H1) | (go_at_call 65; refine (symbol_LenOf.calls 60 s x (n : Int) 0 _ HLO.out).mono ?_; rintro e w' ⟨rfl, hb⟩; replace AT := Ak (AT.out.on hb); replace MV := Ak (MV.out.trans (Moved.of_below g _ hb)); replace HD := Ak (HD.out.on hb); clear hb; clear HLO) | (go_at_call 44; have hcc := rsym_any HR.out _ g p1 pv dist (.slice Ao out.length co) out most AT.out HP.out HD.out; rw [H2.out] at hcc; refine hcc.mono ?_; clear hcc; rintro e w' ⟨pp, rfl, hfa, hb⟩))
    exact ⟨rfl, pp, rfl, hfa, (HX.out.between AT.out MV.out.size).trans hb⟩
  | ok r2 => ?_
  obtain ⟨d, p2⟩ := r2
  obtain ⟨hd0, hd1⟩ : 0 ≤ d ∧ d < 288 := by
    cases hdi : dist with
    | none => rw [hdi] at h2; cases h2
    | some z => ?_
    rw [hdi] at h2; have := symM_ok (hdz z hdi) HP1.out h2
    omega
  have hdb := distBits_eq hd0 hd1; have H2 := Ak h2; clear h2; dsimp only
  cases hdp : distP d with
  | none =>
    rw [hdp] at hdb; have HDB := Ak hdb; clear hdb hdp; go_enter Tryz.func45, Tryz.ntmps45
    go_wp2_with (first | (go_at_call 64; refine (symbol_LenBits.calls 60 s (k : Int) 0 _ HLB.out).mono ?_; rintro e w' ⟨rfl, hb⟩; replace AT := Ak (AT.out.on hb); replace MV := Ak (MV.out.trans (Moved.of_below g _ hb)); replace HD := Ak (HD.out.on hb); clear hb; clear HLB) | (go_at_call 31; refine (must_zero _).mono ?_; rintro e w' ⟨rfl, hw_⟩; subst hw_) | (go_at_call 17; have hcc := rbits_told HR.out _ g p k (.slice Ao out.length co) out most AT.out HP.out (by have := HK.out; omega); rw [H1.out] at hcc; refine hcc.mono ?_; clear hcc; rintro e w' ⟨rfl, hq_, hat_, hm_⟩; replace MV := Ak (MV.out.trans hm_); replace HP := Ak hq_; replace HD := Ak (HD.out.moved AT.out hm_); replace AT := Ak hat_; clear hat_ hm_ hq_; clear H1) | (go_at_call 65; refine (symbol_LenOf.calls 60 s x (n : Int) 0 _ HLO.out).mono ?_; rintro e w' ⟨rfl, hb⟩; replace AT := Ak (AT.out.on hb); replace MV := Ak (MV.out.trans (Moved.of_below g _ hb)); replace HD := Ak (HD.out.on hb); clear hb; clear HLO) | (go_at_call 44; have hcc := rsym_any HR.out _ g p1 pv dist (.slice Ao out.length co) out most AT.out HP.out HD.out; rw [H2.out] at hcc; refine hcc.mono ?_; clear hcc; rintro e w' ⟨rfl, hq_, hat_, hm_⟩; replace MV := Ak (MV.out.trans hm_); replace HP := Ak hq_; replace HD := Ak (HD.out.moved AT.out hm_); replace AT := Ak hat_; clear hat_ hm_ hq_; clear H2) | (go_at_call 66; refine (symbol_DistBits.calls 60 d 0 13 _ HDB.out).mono ?_; rintro e w' ⟨rfl, hb⟩; replace AT := Ak (AT.out.on hb); replace MV := Ak (MV.out.trans (Moved.of_below g _ hb)); replace HD := Ak (HD.out.on hb); clear hb; clear HDB) | (go_at_call 31; refine (must_else 13 (by decide) _).mono ?_; rintro e w' ⟨pp, rfl, hfa, hb⟩))
    exact ⟨rfl, pp, rfl, hfa, (HX.out.between AT.out MV.out.size).trans (hb.mono AT.out.below.size)⟩
  | some kb2 => ?_
  obtain ⟨kd, bd⟩ := kb2; rw [hdp] at hdb; have HDB := Ak hdb; have hkd := (distOf_eq hd0 hd1 hdp (v := 0) (Int.le_refl _) (pow_pos2 kd)).2.1; have hbd := (distOf_eq hd0 hd1 hdp (v := 0) (Int.le_refl _) (pow_pos2 kd)).2.2; have HKD := Ak hkd; clear hdb; dsimp only
  cases h3 : bitsM l p2 kd with
  | error er =>
    have H3 := Ak h3; clear h3 hdp hkd hbd; go_enter Tryz.func45, Tryz.ntmps45
    go_wp2_with (first | (go_at_call 64; refine (symbol_LenBits.calls 60 s (k : Int) 0 _ HLB.out).mono ?_; rintro e w' ⟨rfl, hb⟩; replace AT := Ak (AT.out.on hb); replace MV := Ak (MV.out.trans (Moved.of_below g _ hb)); replace HD := Ak (HD.out.on hb); clear hb; clear HLB) | (go_at_call 31; refine (must_zero _).mono ?_; rintro e w' ⟨rfl, hw_⟩; subst hw_) | (go_at_call 17; have hcc := rbits_told HR.out _ g p k (.slice Ao out.length co) out most AT.out HP.out (by have := HK.out; omega); rw [H1.out] at hcc; refine hcc.mono ?_; clear hcc; rintro e w' ⟨rfl, hq_, hat_, hm_⟩; replace MV := Ak (MV.out.trans hm_); replace HP := Ak hq_; replace HD := Ak (HD.out.moved AT.out hm_); replace AT := Ak hat_; clear hat_ hm_ hq_; clear H1) | (go_at_call 65; refine (symbol_LenOf.calls 60 s x (n : Int) 0 _ HLO.out).mono ?_; rintro e w' ⟨rfl, hb⟩; replace AT := Ak (AT.out.on hb); replace MV := Ak (MV.out.trans (Moved.of_below g _ hb)); replace HD := Ak (HD.out.on hb); clear hb; clear HLO) | (go_at_call 44; have hcc := rsym_any HR.out _ g p1 pv dist (.slice Ao out.length co) out most AT.out HP.out HD.out; rw [H2.out] at hcc; refine hcc.mono ?_; clear hcc; rintro e w' ⟨rfl, hq_, hat_, hm_⟩; replace MV := Ak (MV.out.trans hm_); replace HP := Ak hq_; replace HD := Ak (HD.out.moved AT.out hm_); replace AT := Ak hat_; clear hat_ hm_ hq_; clear H2) | (go_at_call 66; refine (symbol_DistBits.calls 60 d (kd : Int) 0 _ HDB.out).mono ?_; rintro e w' ⟨rfl, hb⟩; replace AT := Ak (AT.out.on hb); replace MV := Ak (MV.out.trans (Moved.of_below g _ hb)); replace HD := Ak (HD.out.on hb); clear hb; clear HDB) | (go_at_call 17; have hcc := rbits_told HR.out _ g p2 kd (.slice Ao out.length co) out most AT.out HP.out (by have := HKD.out; omega); rw [H3.out] at hcc; refine hcc.mono ?_; clear hcc; rintro e w' ⟨pp, rfl, hfa, hb⟩))
    exact ⟨rfl, pp, rfl, hfa, (HX.out.between AT.out MV.out.size).trans hb⟩
  | ok r3 => ?_
  obtain ⟨y, p3⟩ := r3; obtain ⟨hyv, hp3, hp3b⟩ := bitsM_ok h3; have hyr := getV_range l p2 kd; rw [← hyv] at hyr; obtain ⟨far, hfar⟩ : ∃ far, far = bd + y.toNat := ⟨_, rfl⟩
  have hfI : (bd : Int) + y = (far : Int) := by omega
  have hdo := (distOf_eq hd0 hd1 hdp hyr.1 hyr.2).1; rw [hfI] at hdo; have HDO := Ak hdo; have HP3 := Ak (show p3 ≤ 8 * l.length by omega)
  have HFB := Ak (show far ≤ 32768 ∧ 1 ≤ far from by
    have h2 : ((2 ^ kd : Nat) : Int) = (2 : Int) ^ kd := by simp
    have h3 := hbd.2
    omega)
  have H3 := Ak h3; dsimp only; rw [← hfar]; clear h3 hyv hp3 hp3b hyr hdp hkd hbd hfI hfar hdo
  by_cases hfo : far > out.length
  · rw [if_pos hfo]; have q9 := eq_true (show (out.length : Int) < (far : Int) by omega); have q9b := eq_true (show out.length < far by omega); clear hfo; go_enter Tryz.func45, Tryz.ntmps45
    go_wp2_with (first | (go_at_call 64; refine (symbol_LenBits.calls 60 s (k : Int) 0 _ HLB.out).mono ?_; rintro e w' ⟨rfl, hb⟩; replace AT := Ak (AT.out.on hb); replace MV := Ak (MV.out.trans (Moved.of_below g _ hb)); replace HD := Ak (HD.out.on hb); clear hb; clear HLB) | (go_at_call 31; refine (must_zero _).mono ?_; rintro e w' ⟨rfl, hw_⟩; subst hw_) | (go_at_call 17; have hcc := rbits_told HR.out _ g p k (.slice Ao out.length co) out most AT.out HP.out (by have := HK.out; omega); rw [H1.out] at hcc; refine hcc.mono ?_; clear hcc; rintro e w' ⟨rfl, hq_, hat_, hm_⟩; replace MV := Ak (MV.out.trans hm_); replace HP := Ak hq_; replace HD := Ak (HD.out.moved AT.out hm_); replace AT := Ak hat_; clear hat_ hm_ hq_; clear H1) | (go_at_call 65; refine (symbol_LenOf.calls 60 s x (n : Int) 0 _ HLO.out).mono ?_; rintro e w' ⟨rfl, hb⟩; replace AT := Ak (AT.out.on hb); replace MV := Ak (MV.out.trans (Moved.of_below g _ hb)); replace HD := Ak (HD.out.on hb); clear hb; clear HLO) | (go_at_call 44; have hcc := rsym_any HR.out _ g p1 pv dist (.slice Ao out.length co) out most AT.out HP.out HD.out; rw [H2.out] at hcc; refine hcc.mono ?_; clear hcc; rintro e w' ⟨rfl, hq_, hat_, hm_⟩; replace MV := Ak (MV.out.trans hm_); replace HP := Ak hq_; replace HD := Ak (HD.out.moved AT.out hm_); replace AT := Ak hat_; clear hat_ hm_ hq_; clear H2) | (go_at_call 66; refine (symbol_DistBits.calls 60 d (kd : Int) 0 _ HDB.out).mono ?_; rintro e w' ⟨rfl, hb⟩; replace AT := Ak (AT.out.on hb); replace MV := Ak (MV.out.trans (Moved.of_below g _ hb)); replace HD := Ak (HD.out.on hb); clear hb; clear HDB) | (go_at_call 17; have hcc := rbits_told HR.out _ g p2 kd (.slice Ao out.length co) out most AT.out HP.out (by have := HKD.out; omega); rw [H3.out] at hcc; refine hcc.mono ?_; clear hcc; rintro e w' ⟨rfl, hq_, hat_, hm_⟩; replace MV := Ak (MV.out.trans hm_); replace HP := Ak hq_; replace HD := Ak (HD.out.moved AT.out hm_); replace AT := Ak hat_; clear hat_ hm_ hq_; clear H3) | (go_at_call 67; refine (symbol_DistOf.calls 60 d y (far : Int) 0 _ HDO.out).mono ?_; rintro e w' ⟨rfl, hb⟩; replace AT := Ak (AT.out.on hb); replace MV := Ak (MV.out.trans (Moved.of_below g _ hb)); replace HD := Ak (HD.out.on hb); clear hb; clear HDO; have hc3 : w'.cell? ⟨g, 3, none⟩ = some (.slice Ao out.length co) := (blk_cell AT.out.blk 3).trans rfl) | (go_at_call 21; refine (stop_calls 14 _).mono ?_; rintro e w' ⟨pp, rfl, hfa, hb⟩))
    exact ⟨rfl, pp, rfl, hfa, (HX.out.between AT.out MV.out.size).trans (hb.mono AT.out.below.size)⟩
  rw [if_neg hfo]; have HFO := Ak (show far ≤ out.length by omega); have q9 := eq_false (show ¬ (out.length : Int) < (far : Int) by omega); have q9b := eq_false (show ¬ out.length < far by omega); clear hfo
  by_cases hrm : (n : Int) > most - (out.length : Int)
  · rw [if_pos hrm]; have HRm := Ak hrm; clear hrm; go_enter Tryz.func45, Tryz.ntmps45
    go_wp2_with (first | (go_at_call 64; refine (symbol_LenBits.calls 60 s (k : Int) 0 _ HLB.out).mono ?_; rintro e w' ⟨rfl, hb⟩; replace AT := Ak (AT.out.on hb); replace MV := Ak (MV.out.trans (Moved.of_below g _ hb)); replace HD := Ak (HD.out.on hb); clear hb; clear HLB) | (go_at_call 31; refine (must_zero _).mono ?_; rintro e w' ⟨rfl, hw_⟩; subst hw_) | (go_at_call 17; have hcc := rbits_told HR.out _ g p k (.slice Ao out.length co) out most AT.out HP.out (by have := HK.out; omega); rw [H1.out] at hcc; refine hcc.mono ?_; clear hcc; rintro e w' ⟨rfl, hq_, hat_, hm_⟩; replace MV := Ak (MV.out.trans hm_); replace HP := Ak hq_; replace HD := Ak (HD.out.moved AT.out hm_); replace AT := Ak hat_; clear hat_ hm_ hq_; clear H1) | (go_at_call 65; refine (symbol_LenOf.calls 60 s x (n : Int) 0 _ HLO.out).mono ?_; rintro e w' ⟨rfl, hb⟩; replace AT := Ak (AT.out.on hb); replace MV := Ak (MV.out.trans (Moved.of_below g _ hb)); replace HD := Ak (HD.out.on hb); clear hb; clear HLO) | (go_at_call 44; have hcc := rsym_any HR.out _ g p1 pv dist (.slice Ao out.length co) out most AT.out HP.out HD.out; rw [H2.out] at hcc; refine hcc.mono ?_; clear hcc; rintro e w' ⟨rfl, hq_, hat_, hm_⟩; replace MV := Ak (MV.out.trans hm_); replace HP := Ak hq_; replace HD := Ak (HD.out.moved AT.out hm_); replace AT := Ak hat_; clear hat_ hm_ hq_; clear H2) | (go_at_call 66; refine (symbol_DistBits.calls 60 d (kd : Int) 0 _ HDB.out).mono ?_; rintro e w' ⟨rfl, hb⟩; replace AT := Ak (AT.out.on hb); replace MV := Ak (MV.out.trans (Moved.of_below g _ hb)); replace HD := Ak (HD.out.on hb); clear hb; clear HDB) | (go_at_call 17; have hcc := rbits_told HR.out _ g p2 kd (.slice Ao out.length co) out most AT.out HP.out (by have := HKD.out; omega); rw [H3.out] at hcc; refine hcc.mono ?_; clear hcc; rintro e w' ⟨rfl, hq_, hat_, hm_⟩; replace MV := Ak (MV.out.trans hm_); replace HP := Ak hq_; replace HD := Ak (HD.out.moved AT.out hm_); replace AT := Ak hat_; clear hat_ hm_ hq_; clear H3) | (go_at_call 67; refine (symbol_DistOf.calls 60 d y (far : Int) 0 _ HDO.out).mono ?_; rintro e w' ⟨rfl, hb⟩; replace AT := Ak (AT.out.on hb); replace MV := Ak (MV.out.trans (Moved.of_below g _ hb)); replace HD := Ak (HD.out.on hb); clear hb; clear HDO; have hc3 : w'.cell? ⟨g, 3, none⟩ = some (.slice Ao out.length co) := (blk_cell AT.out.blk 3).trans rfl) | (go_at_call 32; refine (room_full HR.out _ g _ (.slice Ao out.length co) out most (n : Int) AT.out HM0.out HM1.out HRm.out).mono ?_; rintro e w' ⟨pp, rfl, hfa, hb⟩))
    exact ⟨rfl, pp, rfl, hfa, (HX.out.between AT.out MV.out.size).trans hb⟩
  rw [if_neg hrm]; have HRm := Ak (show ¬ (n : Int) > most - (out.length : Int) from hrm); have HRn := Ak (show (n : Int) ≤ most - (out.length : Int) by omega); clear hrm; go_enter Tryz.func45, Tryz.ntmps45
  go_wp2_with (first | (go_at_call 64; refine (symbol_LenBits.calls 60 s (k : Int) 0 _ HLB.out).mono ?_; rintro e w' ⟨rfl, hb⟩; replace AT := Ak (AT.out.on hb); replace MV := Ak (MV.out.trans (Moved.of_below g _ hb)); replace HD := Ak (HD.out.on hb); clear hb; clear HLB) | (go_at_call 31; refine (must_zero _).mono ?_; rintro e w' ⟨rfl, hw_⟩; subst hw_) | (go_at_call 17; have hcc := rbits_told HR.out _ g p k (.slice Ao out.length co) out most AT.out HP.out (by have := HK.out; omega); rw [H1.out] at hcc; refine hcc.mono ?_; clear hcc; rintro e w' ⟨rfl, hq_, hat_, hm_⟩; replace MV := Ak (MV.out.trans hm_); replace HP := Ak hq_; replace HD := Ak (HD.out.moved AT.out hm_); replace AT := Ak hat_; clear hat_ hm_ hq_; clear H1) | (go_at_call 65; refine (symbol_LenOf.calls 60 s x (n : Int) 0 _ HLO.out).mono ?_; rintro e w' ⟨rfl, hb⟩; replace AT := Ak (AT.out.on hb); replace MV := Ak (MV.out.trans (Moved.of_below g _ hb)); replace HD := Ak (HD.out.on hb); clear hb; clear HLO) | (go_at_call 44; have hcc := rsym_any HR.out _ g p1 pv dist (.slice Ao out.length co) out most AT.out HP.out HD.out; rw [H2.out] at hcc; refine hcc.mono ?_; clear hcc; rintro e w' ⟨rfl, hq_, hat_, hm_⟩; replace MV := Ak (MV.out.trans hm_); replace HP := Ak hq_; replace HD := Ak (HD.out.moved AT.out hm_); replace AT := Ak hat_; clear hat_ hm_ hq_; clear H2) | (go_at_call 66; refine (symbol_DistBits.calls 60 d (kd : Int) 0 _ HDB.out).mono ?_; rintro e w' ⟨rfl, hb⟩; replace AT := Ak (AT.out.on hb); replace MV := Ak (MV.out.trans (Moved.of_below g _ hb)); replace HD := Ak (HD.out.on hb); clear hb; clear HDB) | (go_at_call 17; have hcc := rbits_told HR.out _ g p2 kd (.slice Ao out.length co) out most AT.out HP.out (by have := HKD.out; omega); rw [H3.out] at hcc; refine hcc.mono ?_; clear hcc; rintro e w' ⟨rfl, hq_, hat_, hm_⟩; replace MV := Ak (MV.out.trans hm_); replace HP := Ak hq_; replace HD := Ak (HD.out.moved AT.out hm_); replace AT := Ak hat_; clear hat_ hm_ hq_; clear H3) | (go_at_call 67; refine (symbol_DistOf.calls 60 d y (far : Int) 0 _ HDO.out).mono ?_; rintro e w' ⟨rfl, hb⟩; replace AT := Ak (AT.out.on hb); replace MV := Ak (MV.out.trans (Moved.of_below g _ hb)); replace HD := Ak (HD.out.on hb); clear hb; clear HDO; have hc3 : w'.cell? ⟨g, 3, none⟩ = some (.slice Ao out.length co) := (blk_cell AT.out.blk 3).trans rfl) | (go_at_call 32; refine (room_ok HR.out _ g _ (.slice Ao out.length co) out most (n : Int) AT.out HM0.out HM1.out (by have := HRm.out; omega)).mono ?_; rintro e w' ⟨rfl, hb⟩; replace AT := Ak (AT.out.on hb); replace MV := Ak (MV.out.trans (Moved.of_below g _ hb)); replace HD := Ak (HD.out.on hb); clear hb; clear HRm))
  go_loopw [60] (fun x60 w' => ∃ (i : Nat) (v' : Value), i ≤ n ∧ x60 = .int .i64 (i : Int) ∧ Aside0 (RdrAt w0 w' g A c l (NN l) (p3 : Int) v' (copyL out far i) most) ∧ Aside0 (Moved w w' g (.slice Ao out.length co) v')) (fun x60 _ => n + 1 - (intOf x60).toNat)
  case atStart => exact ⟨0, _, by omega, rfl, AT, MV⟩
  case round =>
    clear AT MV HD; obtain ⟨i, v1, hi, rfl, AT, MV⟩ := hrel; have hlen := copyL_len out far i; obtain ⟨ys, hys⟩ : ∃ ys, ys = copyL out far i := ⟨_, rfl⟩; rw [← hys] at AT hlen; obtain ⟨A1, c1, rfl⟩ := Kd.R_slice AT.out.row
    by_cases hlt : i < n
    rotate_left
    · obtain rfl : i = n := by omega
      have q0 := eq_false (show ¬ (i : Int) < (i : Int) by omega); have HYS := Ak hys; clear hys hlen hi hlt; go_wp2
      go_end0
      exact ⟨rfl, HP3.out, _, by rw [← HYS.out]; exact AT.out, MV.out⟩
    have hf1 := HFO.out; have hf2 := HFB.out; have hx1 := HXB.out; have hr1 := HRn.out; have hm1' := HM1.out; obtain ⟨j, hj⟩ : ∃ j, j = ys.length - far := ⟨_, rfl⟩; obtain ⟨ad, ead, hcell⟩ := Kd.at_int (Kd.R_reads' AT.out.row).2.2 ((j : Nat) : Int) (by omega) (by omega); subst ead; rw [Int.toNat_natCast, rd_nat] at hcell; obtain ⟨b, hb0⟩ : ∃ b, b = ys.getD j 0 := ⟨_, rfl⟩; rw [← hb0] at hcell; have HC := Ak hcell
    have hwj : wrap64 ((ys.length : Int) - (far : Int)) = (j : Int) := by rw [wrap64_id (by omega) (by omega)]; omega
    have pj := eq_true (show 0 ≤ (j : Int) by omega); have qj := eq_true (show (j : Int) < (ys.length : Int) by omega); have q0 := eq_true (show (i : Int) < (n : Int) by omega); have q0b := eq_true hlt
    have hstep : copyL out far (i + 1) = ys ++ [b] := by
      show copyL out far i ++ [(copyL out far i).getD ((copyL out far i).length - far) 0] = _
      rw [← hys, hb0, hj]
    have HST := Ak hstep; have HLEN := Ak (show ys.length ≤ 70000 by omega); have HI := Ak (show i < n ∧ n ≤ 258 by omega); clear hf1 hf2 hx1 hr1 hm1' hj hcell hb0 hlt hi hlen hstep hys
    go_upto_region 14 with (fail)
    replace AT := Ak (AT.out.on (below_drew (Below.refl _ _))); replace MV := Ak (MV.out.trans (Moved.of_below g _ (below_drew (Below.refl _ _)))); have BG := Ak AT.out.blk; replace HC := Ak (show wr.drew.cell? (ad.add j) = some (.int .u8 b) from HC.out); refine sq 23 (S := fun w' => w'.cell? ⟨g, 3, none⟩ = some (.slice (some ad) ys.length c1) ∧ w'.cell? (ad.add j) = some (.int .u8 b)) (ds := [19, 22]) ⟨(blk_cell BG.out 3).trans rfl, HC.out⟩ fun hHeld => ?_; generalize wr.drew = we at AT MV BG HC hHeld ⊢; refine pq 0 62 ?_; refine pq 1 63 ?_; refine pq 2 64 ?_; refine pq 3 65 ?_; refine pq 5 67 ?_; refine pq 6 68 ?_; refine pq 7 69 ?_; refine pq 9 71 ?_; refine pq 10 72 ?_; refine pq 11 73 ?_; refine pq 14 76 ?_; refine tq 4 66 ?_ hHeld; refine tq 8 70 ?_ hHeld; refine tq 12 74 ?_ hHeld; refine pq 13 75 ?_; refine pq 15 77 ?_; refine pq 16 78 ?_; refine tq 17 79 ?_ hHeld; refine oq 18 80 fun K hK => ?_; refine Kd.R_lit_step (Kd.int .u8) _ 5 ?hg (N := 80) ?hd (xs := ([b] : List Int)) (inner := [.int .u8 b]) (ok := fun _ => True) (okp := fun _ => True) ?hr ?hp (fun _ hk => hk) trivial (Below.refl _ _) (Nat.le_refl _) (by simp) ?_; (case hd => rfl); (case hg => rfl); (case hr => (go_simp; done)); (case hp => exact (Reps.snoc (Reps.none _ _) rfl rfl)); intro v2 w2 ho1 hb hg_ hnew_; obtain ⟨A2, c2, eo1⟩ := Kd.R_slice ho1; subst eo1; replace HL1 := Ak ((Kd.R_reads' ho1).2.2); replace AT := Ak (AT.out.on hb); replace MV := Ak (MV.out.trans (Moved.of_below g _ hb)); replace BG := Ak (blk_below BG.out hb); replace HC := Ak (pw_cell_below hb HC.out); clear hb hg_ hnew_ ho1; refine hK.out _ _ ⟨(blk_cell BG.out 3).trans rfl, HC.out⟩ (fun hHeld => ?_); clear hK K; refine nq 80 ?_; refine last_ (i := 19) (N := some 81) #[true, true, true, true, true, true, true, true, true, true, true, true, true, true, true, true, true, true, true, true, false, false, false] rfl rfl (by kernel_rfl) (by decide) (fun K hK => ?_); refine Kd.R_append_rows_step (Kd.int .u8) (w0 := w0) w0.heap.size (by rfl) (.tmp 66) (.tmp 80) 22 5 (.int .u8 0) 1 rfl Tryz.underlying22 Hu.info5 rfl (by decide) (by omega) (.slice (some ad) ys.length c1) ys [b] _ _ _ (fun _ => True) (fun _ => False) rfl rfl AT.out.row HL1.out (fun _ _ h => h) (fun _ h => h.elim) (fun _ _ => trivial) AT.out.below AT.out.below.size ?aL ?_
    (case aL => have h1_ := HLEN.out; simp only [List.length_cons, List.length_nil]; omega)
    intro v3 w6 ho hb hg hat; obtain ⟨zs, hzs⟩ : ∃ zs, zs = ys ++ [b] := ⟨_, rfl⟩; rw [← hzs] at ho; have HZS := Ak hzs; clear hzs; obtain ⟨A3, c3, ev⟩ := Kd.R_slice ho; subst ev; have hap := AT.out.appended ho hb hg hat; have hbg := blk_grown BG.out hg (Kd.R_ne AT.out.row AT.out.blk (by decide)); replace BG := Ak (hbg); replace AP := Ak (hap); clear hbg hap ho hb hg hat; refine hK.out _ _ ?_; clear hK K; refine nq 81 ?_; refine pq 20 82 ?_; refine pq 21 83 ?_; refine lq 22 fun K hK => ?_; have hz := ((blk_cell BG.out 3).trans rfl : w6.cell? ⟨g, 3, none⟩ = some (.slice (some ad) ys.length c1)); have hf := blk_frozen BG.out 3; refine skip_ (w1 := ?_) (by rfl) rfl ?_ ?_; rotate_left
    · go_simp
      rfl
    refine hK.out _ _ ?_; clear hK K; refine dq ?_; clear hz hf hHeld BG; generalize w6.setCell ⟨g, 3, none⟩ (.slice A3 zs.length c3) = w7 at AP ⊢; go_wp2
    go_roundw
    case rel => exact ⟨i + 1, _, by have := HI.out; omega, val_next _ (by have := HI.out; omega), ⟨by rw [HST.out, ← HZS.out]; exact AP.out.1⟩, ⟨MV.out.trans AP.out.2⟩⟩
    case measure => rw [nat_next _ (by have := HI.out; omega)]; simp only [intOf, Int.toNat_natCast]; have := HI.out; omega
end
-- YtgflkkjhckcipaaGreatDoorIf13
theorem copiedM_ok {l : List Int} {most : Int} {dist : Option (List Int)} {s : Int} {p : Nat} {out : List Int} {p2 : Nat} {out2 : List Int} (hdz : ∀ z, dist = some z → OKL z) (h : copiedM l most dist s p out = .ok (p2, out2)) : p ≤ p2 ∧ p2 ≤ 8 * l.length ∧ (out2.length : Int) ≤ most := by
  unfold copiedM at h; split at h
  · cases h
  split at h
  · cases h
  next k base _ x p1 h1 =>
  obtain ⟨_, e1, b1⟩ := bitsM_ok h1; split at h
  · cases h
  next d p1' h2 =>
  have hs : p1 < p1' := by
    cases hd : dist with
    | none => rw [hd] at h2; cases h2
    | some z => ?_
    rw [hd] at h2; have := symM_ok (hdz z hd) (by omega) h2
    omega
  split at h
  · cases h
  split at h
  · cases h
  next y p3 h3 =>
  obtain ⟨_, e3, b3⟩ := bitsM_ok h3; split at h
  · cases h
  split at h
  · cases h
  next hr =>
  injection h with h
  injection h with h4 h5
  subst h4 h5; rw [copyL_len]
  omega
section
attribute [local go_sem] Oper.semAt_some
theorem symbols_told {w0 : World} {A : Option Addr} {c : Nat} {l : List Int} (hr : RowOk w0 A c l) (w : World) (g p : Nat) (v : Value) (out : List Int) (most : Int) (pl : Value) (lit : List Int) (pd : Value) (dist : Option (List Int)) (H : RdrAt w0 w g A c l (NN l) (p : Int) v out most) (hp : p ≤ 8 * l.length) (hm0 : (out.length : Int) ≤ most) (hm1 : most ≤ 65536) (hL : CodeIn w pl (some lit)) (hD : CodeIn w pd dist) (hlz : OKL lit) (hdz : ∀ z, dist = some z → OKL z) (k : Nat) (hk : 8 * l.length - p < k) :
    Calls Tryz.prog 33 #[.pointer (some ⟨g, 0, none⟩), pl, pd] w fun e w' => ToldO w0 w g A c l v most e w' (symbolsM l most lit dist k p out) := by
  have HR := Ak hr; have HX := Ak H; have huR := Tryz.underlying45; have huB := Tryz.underlying43; have HM1 := Ak hm1; have HDZ := Ak hdz; have HLZ := Ak hlz; have AT := Ak H; have MV := Ak (Moved.of_below g v (Below.refl w.heap.size w)); have HP := Ak hp; have HL := Ak hL; have HD := Ak hD; have HM0 := Ak hm0; obtain ⟨R, hR⟩ : ∃ R, symbolsM l most lit dist k p out = R := ⟨_, rfl⟩; rw [hR]; have HRR := Ak hR; have HK := Ak hk; clear H hr hp hm0 hm1 hL hD hlz hdz hk hR; go_enter Tryz.func33, Tryz.ntmps33; go_wp2
  go_loopg [] k (fun kq w' => ∃ (p' : Nat) (ys : List Int) (v1 : Value), Aside0 (RdrAt w0 w' g A c l (NN l) (p' : Int) v1 ys most) ∧ Aside0 (Moved w w' g v v1) ∧ Aside0 (CodeIn w' pl (some lit)) ∧ Aside0 (CodeIn w' pd dist) ∧ Aside0 (p' ≤ 8 * l.length) ∧ Aside0 ((ys.length : Int) ≤ most) ∧ Aside0 (symbolsM l most lit dist kq p' ys = R) ∧ Aside0 (8 * l.length - p' < kq))
  case atStart => exact ⟨p, out, v, AT, MV, HL, HD, HP, HM0, HRR, HK⟩
  case round =>
    clear AT MV HL HD HP HM0 HRR HK; obtain ⟨p0, ys, v1, AT, MV, HL, HD, HP, HM0, HRR, HK⟩ := hrel; obtain ⟨A1, c1, rfl⟩ := Kd.R_slice AT.out.row; have hRR := HRR.out; clear HRR
    cases gk with
    | zero => exact absurd HK.out (by omega)
    | succ k1 => ?_
    rw [symbolsM] at hRR
    cases h1 : symM l (some lit) p0 with
    | error er =>
      rw [h1] at hRR; have H1 := Ak h1; have HRR := Ak hRR.symm; clear h1 hRR
      go_wp2_with (go_at_call 44; have hcc := rsym_any HR.out _ g p0 pl (some lit) (.slice A1 ys.length c1) ys most AT.out HP.out HL.out; rw [H1.out] at hcc; refine hcc.mono ?_; clear hcc; rintro e w' ⟨pp, rfl, hfa, hb⟩)
      exact ⟨rfl, by rw [HRR.out]; exact ⟨pp, rfl, hfa, (HX.out.between AT.out MV.out.size).trans hb⟩⟩
    | ok r1 => ?_
    obtain ⟨s, p1⟩ := r1; have hsb := symM_ok HLZ.out HP.out h1; rw [h1] at hRR; dsimp only at hRR; have H1 := Ak h1; have HSB := Ak hsb; have HKK := HK.out; clear h1
    by_cases hs : s = 256
    · rw [if_pos hs] at hRR; have HRR := Ak hRR.symm; have q0 := eq_true hs
      have q0b : (s == 256) = true := by rw [hs]; rfl
      subst hs; clear hRR hsb HKK
      go_wp2_with (go_at_call 44; have hcc := rsym_any HR.out _ g p0 pl (some lit) (.slice A1 ys.length c1) ys most AT.out HP.out HL.out; rw [H1.out] at hcc; refine hcc.mono ?_; clear hcc; rintro e w' ⟨rfl, hq_, hat_, hm_⟩; replace MV := Ak (MV.out.trans hm_); replace HP := Ak hq_; replace HL := Ak (HL.out.moved AT.out hm_); replace HD := Ak (HD.out.moved AT.out hm_); replace AT := Ak hat_; clear hat_ hm_ hq_; clear H1)
      refine bodyPost_ret (results_none rfl _ _ _) rfl ?_; rw [HRR.out]; exact ⟨rfl, HP.out, _, AT.out, MV.out⟩
    rw [if_neg hs] at hRR; have q0 := eq_false hs; have q0b : (s == 256) = false := beq_eq_false_iff_ne.mpr hs
    by_cases hg : s > 256
    · rw [if_pos hg] at hRR; have q1 := eq_true (show (256 : Int) < s from hg); have q1b : decide ((256 : Int) < s) = true := decide_eq_true hg; have HS := Ak (And.intro hsb.1 hsb.2.1)
      cases h2 : copiedM l most dist s p1 ys with
      | error er =>
        rw [h2] at hRR; have HRR := Ak hRR.symm; have H2 := Ak h2; clear h2 hRR hsb HKK hs hg
        go_wp2_with (first | (go_at_call 44; have hcc := rsym_any HR.out _ g p0 pl (some lit) (.slice A1 ys.length c1) ys most AT.out HP.out HL.out; rw [H1.out] at hcc; refine hcc.mono ?_; clear hcc; rintro e w' ⟨rfl, hq_, hat_, hm_⟩; replace MV := Ak (MV.out.trans hm_); replace HP := Ak hq_; replace HL := Ak (HL.out.moved AT.out hm_); replace HD := Ak (HD.out.moved AT.out hm_); replace AT := Ak hat_; clear hat_ hm_ hq_; clear H1) | (go_at_call 45; have hcc := copied_told HR.out _ g p1 (.slice A1 ys.length c1) ys most pd dist AT.out HP.out HM0.out HM1.out HD.out s HS.out.1 HS.out.2 HDZ.out; rw [H2.out] at hcc; refine hcc.mono ?_; clear hcc; rintro e w' ⟨pp, rfl, hfa, hb⟩))
        exact ⟨rfl, by rw [HRR.out]; exact ⟨pp, rfl, hfa, (HX.out.between AT.out MV.out.size).trans hb⟩⟩
      | ok r2 => ?_
      obtain ⟨p2, zs⟩ := r2; have hcb := copiedM_ok HDZ.out h2; rw [h2] at hRR; dsimp only at hRR; have HRR := Ak hRR; have HCB := Ak hcb; have HKN := Ak (show 8 * l.length - p2 < k1 by omega); have H2 := Ak h2; clear h2 hRR hsb HKK hs hg hcb
      go_wp2_with (first | (go_at_call 44; have hcc := rsym_any HR.out _ g p0 pl (some lit) (.slice A1 ys.length c1) ys most AT.out HP.out HL.out; rw [H1.out] at hcc; refine hcc.mono ?_; clear hcc; rintro e w' ⟨rfl, hq_, hat_, hm_⟩; replace MV := Ak (MV.out.trans hm_); replace HP := Ak hq_; replace HL := Ak (HL.out.moved AT.out hm_); replace HD := Ak (HD.out.moved AT.out hm_); replace AT := Ak hat_; clear hat_ hm_ hq_; clear H1) | (go_at_call 45; have hcc := copied_told HR.out _ g p1 (.slice A1 ys.length c1) ys most pd dist AT.out HP.out HM0.out HM1.out HD.out s HS.out.1 HS.out.2 HDZ.out; rw [H2.out] at hcc; refine hcc.mono ?_; clear hcc; rintro e w' ⟨rfl, hq_, v2, hat_, hm_⟩; replace MV := Ak (MV.out.trans hm_); replace HP := Ak hq_; replace HL := Ak (HL.out.moved AT.out hm_); replace HD := Ak (HD.out.moved AT.out hm_); replace AT := Ak hat_; clear hat_ hm_ hq_; clear H2))
      go_roundg k1
      case measure => omega
      case rel => exact ⟨p2, zs, _, AT, MV, HL, HD, HP, ⟨HCB.out.2.2⟩, HRR, HKN⟩
    rw [if_neg hg] at hRR; have q1 := eq_false (show ¬ (256 : Int) < s from hg); have q1b : decide ((256 : Int) < s) = false := decide_eq_false hg
    by_cases hrm : 1 > most - (ys.length : Int)
    · rw [if_pos hrm] at hRR; have HRR := Ak hRR.symm; have HRm := Ak hrm; clear hRR hsb HKK hs hg hrm
      go_wp2_with (first | (go_at_call 44; have hcc := rsym_any HR.out _ g p0 pl (some lit) (.slice A1 ys.length c1) ys most AT.out HP.out HL.out; rw [H1.out] at hcc; refine hcc.mono ?_; clear hcc; rintro e w' ⟨rfl, hq_, hat_, hm_⟩; replace MV := Ak (MV.out.trans hm_); replace HP := Ak hq_; replace HL := Ak (HL.out.moved AT.out hm_); replace HD := Ak (HD.out.moved AT.out hm_); replace AT := Ak hat_; clear hat_ hm_ hq_; clear H1) | (go_at_call 32; refine (room_full HR.out _ g _ (.slice A1 ys.length c1) ys most 1 AT.out HM0.out HM1.out HRm.out).mono ?_; rintro e w' ⟨pp, rfl, hfa, hb⟩))
      exact ⟨rfl, by rw [HRR.out]; exact ⟨pp, rfl, hfa, (HX.out.between AT.out MV.out.size).trans hb⟩⟩
    rw [if_neg hrm] at hRR; have HRR := Ak hRR; have HRm := Ak (show ¬ (1 : Int) > most - (ys.length : Int) from hrm)
    have hu8 : IntKind.u8.wrap s = s := by rw [IntKind.wrap_u8]; omega
    have hu8b : s % 256 = s := by omega
    have HKN := Ak (show 8 * l.length - p1 < k1 by omega); have HM2 := Ak (show ((ys ++ [s]).length : Int) ≤ most by rw [List.length_append, List.length_singleton]; omega); have HYL := Ak (show ys.length ≤ 70000 by have := HM0.out; have := HM1.out; omega); clear hRR hsb HKK hs hg hrm
    go_wp2_with (first | (go_at_call 44; have hcc := rsym_any HR.out _ g p0 pl (some lit) (.slice A1 ys.length c1) ys most AT.out HP.out HL.out; rw [H1.out] at hcc; refine hcc.mono ?_; clear hcc; rintro e w' ⟨rfl, hq_, hat_, hm_⟩; replace MV := Ak (MV.out.trans hm_); replace HP := Ak hq_; replace HL := Ak (HL.out.moved AT.out hm_); replace HD := Ak (HD.out.moved AT.out hm_); replace AT := Ak hat_; clear hat_ hm_ hq_; clear H1) | (go_at_call 32; refine (room_ok HR.out _ g _ (.slice A1 ys.length c1) ys most 1 AT.out HM0.out HM1.out (by have := HRm.out; omega)).mono ?_; rintro e w' ⟨rfl, hb⟩; replace AT := Ak (AT.out.on hb); replace MV := Ak (MV.out.trans (Moved.of_below g _ hb)); replace HL := Ak (HL.out.on hb); replace HD := Ak (HD.out.on hb); clear hb; clear HRm; have hc3 : w'.cell? ⟨g, 3, none⟩ = some (.slice A1 ys.length c1) := (blk_cell AT.out.blk 3).trans rfl; have hf3 := blk_frozen AT.out.blk 3) | ((with_reducible refine gate_builtin (b := .append) (xs := #[.tmp 16, .tmp 19]) rfl ?_); at_builtin; refine Kd.R_append (Kd.int .u8) (w0 := w0) w0.heap.size rfl (.tmp 16) (.tmp 19) 22 5 (.int .u8 0) 1 rfl Tryz.underlying22 Hu.info5 rfl (by decide) (by omega) (.slice A1 ys.length c1) ys s [.int .u8 s] (fun _ => True) (fun _ => False) rfl rfl ?aP (fun _ hk => hk.elim) ?aF ?aO ?aB ?aS ?aL ?_; (case aP => exact rfl); (case aF => exact (fun _ _ => trivial)); (case aO => exact AT.out.row); (case aB => exact AT.out.below); (case aS => exact AT.out.below.size); (case aL => have := HYL.out; omega); intro v3 w6 ho hb hg hat; obtain ⟨zs, hzs⟩ : ∃ zs, zs = ys ++ [s] := ⟨_, rfl⟩; rw [← hzs] at ho; have HZS := Ak hzs; clear hzs; obtain ⟨A3, c3, ev⟩ := Kd.R_slice ho; subst ev; have hap0 := AT.out.appended ho hb hg hat; have AP := Ak hap0; have hc3b : w6.cell? ⟨g, 3, none⟩ = some (.slice A1 ys.length c1) := (blk_cell (blk_grown AT.out.blk hg (Kd.R_ne AT.out.row AT.out.blk (by decide))) 3).trans rfl; have hf3b := blk_frozen (blk_grown AT.out.blk hg (Kd.R_ne AT.out.row AT.out.blk (by decide))) 3; clear hap0 ho hb hg hat hc3 hf3))
    go_roundg k1
    case measure => omega
    case rel => exact ⟨p1, zs, _, ⟨AP.out.1⟩, ⟨MV.out.trans AP.out.2⟩, ⟨HL.out.moved AT.out AP.out.2⟩, ⟨HD.out.moved AT.out AP.out.2⟩, HP, ⟨by rw [HZS.out]; exact HM2.out⟩, ⟨by rw [HZS.out]; exact HRR.out⟩, HKN⟩
end
end Go.Proofs.YtgflkkjhckcipaaGreatDoor.Pr

