-- Texts by hand and by programs of this session, joined (wip/tool/merge.py).
import Derived.Shelf.Abstract
import Derived.Shelf.RegionOpen
import Derived.OwnWalkIn
import Derived.TacticsInMore
import Derived.LoopNIn
import Derived.LoopIn
import Derived.Test.YtgflkkjhckcipaaGreatDoorMID18
-- YtgflkkjhckcipaaGreatDoorIf47
set_option maxHeartbeats 16000000
set_option maxRecDepth 1000000
namespace Go.Proofs.YtgflkkjhckcipaaGreatDoor.Pr
open Go.RowKit Go.Shelf Go.Proofs.YtgflkkjhckcipaaGreatDoorW.PrintWords Go.Proofs.YtgflkkjhckcipaaGreatDoorW.PrintLast Go.Proofs.YtgflkkjhckcipaaGreatDoorW.PrintMore
set_option linter.unusedVariables false
set_option linter.unusedSimpArgs false
section
attribute [local go_sem] Oper.semAt_some
theorem sget_told' {w0 : World} {A : Option Addr} {c : Nat} {l : List Int} (hr : RowOk w0 A c l) (w : World) (g p n : Nat) (m : Int) (hm : m = (n : Int)) (v : Value) (out : List Int) (most : Int) (H : StAt w0 w g A c l (NN l) (p : Int) v out most) (hp : p ≤ 8 * l.length) (hn : n ≤ 32) :
    Calls Tryz.prog 22 #[.pointer (some ⟨g, 0, none⟩), .int .i64 m] w fun e w' => ToldG w0 w g A c l v out most e w' (bitsM l p n) := by
  subst hm; exact sget_told hr w g p n v out most H hp hn
def ToldS (w0 w : World) (g : Nat) (A : Option Addr) (c : Nat) (l : List Int) (v : Value) (most : Int) (e : Ending) (w' : World) : Except Int (Nat × List Int) → Prop
  | .ok (p', out') => e = .returned (.int .i64 0) ∧ p' ≤ 8 * l.length ∧ ∃ v', StAt w0 w' g A c l (NN l) ((p' : Nat) : Int) v' out' most ∧ Moved w w' g v v'
  | .error er => e = .returned (.int .i64 er) ∧ Below w0.heap.size w w' ∧ er ≠ 0
theorem sstored_told {w0 : World} {A : Option Addr} {c : Nat} {l : List Int} (hr : RowOk w0 A c l) (w : World) (g p : Nat) (v : Value) (out : List Int) (most : Int) (H : StAt w0 w g A c l (NN l) (p : Int) v out most) (hp : p ≤ 8 * l.length) (hm0 : (out.length : Int) ≤ most) (hm1 : most ≤ 65536) :
    Calls Tryz.prog 23 #[.pointer (some ⟨g, 0, none⟩)] w fun e w' => ToldS w0 w g A c l v most e w' (storedM l most p out) := by
  have hlen := hr.len; obtain ⟨Ao, co, rfl⟩ := Kd.R_slice H.row; have HR := Ak hr; have HX := Ak H; have AT := Ak H; have MV := Ak (Moved.of_below g (.slice Ao out.length co) (Below.refl w.heap.size w)); have HP := Ak hp; have huR := Tryz.underlying48; have huB := Tryz.underlying43; have HM0 := Ak hm0; have HM1 := Ak hm1; obtain ⟨p1, hp1⟩ : ∃ p1, (p + 7) / 8 * 8 = p1 := ⟨_, rfl⟩; have HP1 := Ak (show p1 ≤ 8 * l.length by omega); obtain ⟨R, hR⟩ : ∃ R, storedM l most p out = R := ⟨_, rfl⟩; rw [hR]; have hRR := hR; clear hR; unfold storedM at hRR; rw [hp1] at hRR; have HRR := Ak hRR; have HI := Ak (show p ≤ p1 ∧ p1 % 8 = 0 ∧ p1 < p + 8 by omega); have HLEN := Ak hlen; clear hRR H hr hp hm0 hm1 hp1 hlen; go_enter Tryz.func23, Tryz.ntmps23; go_wp2
  go_loopg [] 8 (fun kq w' => ∃ p' : Nat, Aside0 (StAt w0 w' g A c l (NN l) (p' : Int) (.slice Ao out.length co) out most) ∧ Aside0 (Moved w w' g (.slice Ao out.length co) (.slice Ao out.length co)) ∧ Aside0 (p' ≤ p1 ∧ p1 % 8 = 0 ∧ p1 < p' + 8) ∧ Aside0 (p1 - p' < kq))
  case atStart => exact ⟨p, AT, MV, HI, ⟨by have := HI.out; omega⟩⟩
  case round =>
    clear AT MV HI HP; obtain ⟨p', AT, MV, HI, HK⟩ := hrel; have hi := HI.out; have hp1 := HP1.out; have hlen := HLEN.out; obtain ⟨hc2, hf2, hc3, hf3⟩ := st_c2 AT.out; clear hc3 hf3; have ht8 : Int.tmod (p' : Int) 8 = ((p' % 8 : Nat) : Int) := tmod8 p'
    have hw1 : wrap64 ((p' : Int) + 1) = ((p' + 1 : Nat) : Int) := by rw [wrap64_id (by omega) (by omega)]; omega
    by_cases h8 : p' % 8 = 0
    rotate_left
    · have qe := bne_iff_ne.2 (show ((p' % 8 : Nat) : Int) ≠ 0 by omega); have qe2 := eq_false (show ¬ ((p' % 8 : Nat) : Int) = 0 by omega)
      cases gk with
      | zero => exact absurd HK.out (by omega)
      | succ k1 => ?_
      have HI2 := Ak (show p' + 1 ≤ p1 ∧ p1 % 8 = 0 ∧ p1 < p' + 1 + 8 by omega); have HK2 := Ak (show p1 - (p' + 1) < k1 by have := HK.out; omega); clear hi hp1 HI HK h8; generalize hq : ((p' % 8 : Nat) : Int) = q8 at *; clear hq; go_wp2
      go_roundg k1
      case measure => omega
      case rel => exact ⟨p' + 1, ⟨AT.out.setAt _⟩, ⟨MV.out.set_ 2 _⟩, HI2, HK2⟩
    obtain rfl : p' = p1 := by omega
    rw [h8] at ht8; clear hw1; have HP := Ak (show p' ≤ 8 * l.length from hp1); have H8 := Ak h8; clear hi hp1 HI HK h8 HP1; have hRR := HRR.out; clear HRR
    cases h1 : bitsM l p' 16 with
    | error er =>
      rw [h1] at hRR; have HRR := Ak hRR.symm; have H1 := Ak h1; clear h1 hRR
      go_wp2_with (go_at_call 22; have hcc := sget_told' HR.out _ g _ 16 16 rfl (.slice Ao out.length co) out most AT.out HP.out (by decide); rw [H1.out] at hcc; refine hcc.mono ?_; clear hcc; rintro e w' ⟨rfl, hb, hne_⟩; have qe_ := eq_false hne_; have qeb_ := bne_iff_ne.2 hne_; have HNE := Ak hne_; clear hne_)
      go_ret; rw [HRR.out]; exact ⟨rfl, (HX.out.between AT.out MV.out.size).trans hb, HNE.out⟩
    | ok r1 => ?_
    obtain ⟨x, p2⟩ := r1; rw [h1] at hRR; dsimp only at hRR; obtain ⟨hxv, hp2, hp2b⟩ := bitsM_ok h1; have hxb := getV_bound l p' 16 (by decide); have hxr := getV_range l p' 16; rw [← hxv] at hxb hxr; have hx16 : x < 65536 := hxr.2; have H1 := Ak h1; clear h1 hxv hxr
    cases h2 : bitsM l p2 16 with
    | error er =>
      rw [h2] at hRR; have HRR := Ak hRR.symm; have H2 := Ak h2; clear h2 hRR hxb hx16 hp2 hp2b
      go_wp2_with (first | (go_at_call 22; have hcc := sget_told' HR.out _ g _ 16 16 rfl (.slice Ao out.length co) out most AT.out HP.out (by decide); rw [H1.out] at hcc; refine hcc.mono ?_; clear hcc; rintro e w' ⟨rfl, hq_, hat_, hm_⟩; replace AT := Ak hat_; replace MV := Ak (MV.out.trans hm_); replace HP := Ak hq_; clear hat_ hm_ hq_; clear H1) | (go_at_call 22; have hcc := sget_told' HR.out _ g _ 16 16 rfl (.slice Ao out.length co) out most AT.out HP.out (by decide); rw [H2.out] at hcc; refine hcc.mono ?_; clear hcc; rintro e w' ⟨rfl, hb, hne_⟩; have qe_ := eq_false hne_; have qeb_ := bne_iff_ne.2 hne_; have HNE := Ak hne_; clear hne_))
      go_ret; rw [HRR.out]; exact ⟨rfl, (HX.out.between AT.out MV.out.size).trans hb, HNE.out⟩
    | ok r2 => ?_
    obtain ⟨y, p3⟩ := r2; rw [h2] at hRR; dsimp only at hRR; obtain ⟨hyv, hp3, hp3b⟩ := bitsM_ok h2; have hyb := getV_bound l p2 16 (by decide); have hyr := getV_range l p2 16; rw [← hyv] at hyb hyr; have hy16 : y < 65536 := hyr.2; have H2 := Ak h2; clear h2 hyv hyr; have hwx : wrap64 (x + y) = x + y := wrap64_id (by omega) (by omega)
    have hal : p3 % 8 = 0 := by have := H8.out; omega
    by_cases hne : y ≠ 65535 - x
    · rw [if_pos hne] at hRR; have HRR := Ak hRR.symm; have q0 : (x + y != 65535) = true := bne_iff_ne.2 (by omega); have q1 := eq_false (show ¬ x + y = 65535 by omega); clear hxb hyb hx16 hy16 hp2 hp2b hp3 hp3b hne hRR hal
      go_wp2_with (first | (go_at_call 22; have hcc := sget_told' HR.out _ g _ 16 16 rfl (.slice Ao out.length co) out most AT.out HP.out (by decide); rw [H1.out] at hcc; refine hcc.mono ?_; clear hcc; rintro e w' ⟨rfl, hq_, hat_, hm_⟩; replace AT := Ak hat_; replace MV := Ak (MV.out.trans hm_); replace HP := Ak hq_; clear hat_ hm_ hq_; clear H1) | (go_at_call 22; have hcc := sget_told' HR.out _ g _ 16 16 rfl (.slice Ao out.length co) out most AT.out HP.out (by decide); rw [H2.out] at hcc; refine hcc.mono ?_; clear hcc; rintro e w' ⟨rfl, hq_, hat_, hm_⟩; replace AT := Ak hat_; replace MV := Ak (MV.out.trans hm_); replace HP := Ak hq_; clear hat_ hm_ hq_; clear H2))
      go_ret; rw [HRR.out]; exact ⟨rfl, HX.out.between AT.out MV.out.size, by decide⟩
    rw [if_neg hne] at hRR; have hy : y = 65535 - x := Decidable.not_not.1 hne
    have q0 : (x + y != 65535) = false := by rw [hy, show x + (65535 - x) = 65535 by omega]; rfl
    have q1 := eq_true (show x + y = 65535 by omega); have q2 : Go.bits .and .i64 x y = 0 := and16 hxb.1 hx16 hy
    have hwm : wrap64 (most - (out.length : Int)) = most - (out.length : Int) := by have := HM0.out; have := HM1.out; exact wrap64_id (by omega) (by omega)
    clear hne hyb hy16 hy
    by_cases hrm : x > most - (out.length : Int)
    · rw [if_pos hrm] at hRR; have HRR := Ak hRR.symm; have q11 := eq_true (show wrap64 (most - (out.length : Int)) < x by rw [hwm]; exact hrm); clear hwm hrm hxb hx16 hp2 hp2b hp3 hp3b hRR hal
      go_upto_region 11 with (first | (go_at_call 22; have hcc := sget_told' HR.out _ g _ 16 16 rfl (.slice Ao out.length co) out most AT.out HP.out (by decide); rw [H1.out] at hcc; refine hcc.mono ?_; clear hcc; rintro e w' ⟨rfl, hq_, hat_, hm_⟩; replace AT := Ak hat_; replace MV := Ak (MV.out.trans hm_); replace HP := Ak hq_; clear hat_ hm_ hq_; clear H1) | (go_at_call 22; have hcc := sget_told' HR.out _ g _ 16 16 rfl (.slice Ao out.length co) out most AT.out HP.out (by decide); rw [H2.out] at hcc; refine hcc.mono ?_; clear hcc; rintro e w' ⟨rfl, hq_, hat_, hm_⟩; replace AT := Ak hat_; replace MV := Ak (MV.out.trans hm_); replace HP := Ak hq_; clear hat_ hm_ hq_; clear H2))
      replace AT := Ak (AT.out.on (below_drew (Below.refl _ _))); replace MV := Ak (MV.out.trans (Moved.of_below g _ (below_drew (Below.refl _ _)))); refine sq 12 (S := fun w' => w'.cell? ⟨g, 4, none⟩ = some (.int .i64 most) ∧ w'.cell? ⟨g, 3, none⟩ = some ((.slice Ao out.length co))) (ds := []) ⟨(blk_cell AT.out.blk 4).trans rfl, (blk_cell AT.out.blk 3).trans rfl⟩ fun hHeld => ?_; generalize w'.drew = wd at AT MV hHeld ⊢; refine pq 0 45 ?_; refine pq 1 46 ?_; refine pq 2 47 ?_; refine pq 3 48 ?_; refine pq 5 50 ?_; refine pq 6 51 ?_; refine pq 7 52 ?_; refine tq 4 49 ?_ hHeld; refine tq 8 53 ?_ hHeld; refine pq 9 54 ?_; refine pq 10 55 ?_; refine pq 11 56 ?_; refine dq ?_; clear hHeld; go_wp2; go_ret; rw [HRR.out]; exact ⟨rfl, HX.out.between AT.out MV.out.size, by decide⟩
    rw [if_neg hrm] at hRR; have q11 := eq_false (show ¬ wrap64 (most - (out.length : Int)) < x by rw [hwm]; exact hrm); clear hwm hrm
    by_cases hsh : (8 * l.length - p3) / 8 < x.toNat
    · rw [if_pos hsh] at hRR; have HRR := Ak hRR.symm; have q13 := eq_true (show wrap64 (8 * (l.length : Int) - (p3 : Int)) < wrap64 (8 * x) by rw [wrap64_id (by omega) (by omega), wrap64_id (by omega) (by omega)]; omega); clear hsh hxb hx16 hp2 hp2b hp3 hp3b hRR hal
      go_upto_region 11 with (first | (go_at_call 22; have hcc := sget_told' HR.out _ g _ 16 16 rfl (.slice Ao out.length co) out most AT.out HP.out (by decide); rw [H1.out] at hcc; refine hcc.mono ?_; clear hcc; rintro e w' ⟨rfl, hq_, hat_, hm_⟩; replace AT := Ak hat_; replace MV := Ak (MV.out.trans hm_); replace HP := Ak hq_; clear hat_ hm_ hq_; clear H1) | (go_at_call 22; have hcc := sget_told' HR.out _ g _ 16 16 rfl (.slice Ao out.length co) out most AT.out HP.out (by decide); rw [H2.out] at hcc; refine hcc.mono ?_; clear hcc; rintro e w' ⟨rfl, hq_, hat_, hm_⟩; replace AT := Ak hat_; replace MV := Ak (MV.out.trans hm_); replace HP := Ak hq_; clear hat_ hm_ hq_; clear H2))
      replace AT := Ak (AT.out.on (below_drew (Below.refl _ _))); replace MV := Ak (MV.out.trans (Moved.of_below g _ (below_drew (Below.refl _ _)))); refine sq 12 (S := fun w' => w'.cell? ⟨g, 4, none⟩ = some (.int .i64 most) ∧ w'.cell? ⟨g, 3, none⟩ = some ((.slice Ao out.length co))) (ds := []) ⟨(blk_cell AT.out.blk 4).trans rfl, (blk_cell AT.out.blk 3).trans rfl⟩ fun hHeld => ?_; generalize w'.drew = wd at AT MV hHeld ⊢; refine pq 0 45 ?_; refine pq 1 46 ?_; refine pq 2 47 ?_; refine pq 3 48 ?_; refine pq 5 50 ?_; refine pq 6 51 ?_; refine pq 7 52 ?_; refine tq 4 49 ?_ hHeld; refine tq 8 53 ?_ hHeld; refine pq 9 54 ?_; refine pq 10 55 ?_; refine pq 11 56 ?_; refine dq ?_; clear hHeld
      go_upto_region 13 with (fail)
      replace AT := Ak (AT.out.on (below_drew (Below.refl _ _))); replace MV := Ak (MV.out.trans (Moved.of_below g _ (below_drew (Below.refl _ _)))); refine sq 13 (S := fun w' => w'.cell? ⟨g, 1, none⟩ = some (.int .i64 (NN l)) ∧ w'.cell? ⟨g, 2, none⟩ = some (.int .i64 (p3 : Int))) (ds := []) ⟨(blk_cell AT.out.blk 1).trans rfl, (blk_cell AT.out.blk 2).trans rfl⟩ fun hHeld => ?_; generalize wd.drew = we at AT MV hHeld ⊢; refine pq 0 57 ?_; refine pq 1 58 ?_; refine pq 2 59 ?_; refine pq 3 60 ?_; refine pq 5 62 ?_; refine pq 6 63 ?_; refine pq 7 64 ?_; refine pq 10 67 ?_; refine pq 11 68 ?_; refine tq 4 61 ?_ hHeld; refine tq 8 65 ?_ hHeld; refine pq 9 66 ?_; refine pq 12 69 ?_; refine dq ?_; clear hHeld; go_wp2; go_ret; rw [HRR.out]; exact ⟨rfl, HX.out.between AT.out MV.out.size, by decide⟩
    rw [if_neg hsh] at hRR; have q13 := eq_false (show ¬ wrap64 (8 * (l.length : Int) - (p3 : Int)) < wrap64 (8 * x) by rw [wrap64_id (by omega) (by omega), wrap64_id (by omega) (by omega)]; omega); obtain ⟨i3, hi3⟩ : ∃ i3, i3 = p3 / 8 := ⟨_, rfl⟩; obtain ⟨j3, hj3⟩ : ∃ j3, j3 = i3 + x.toNat := ⟨_, rfl⟩
    have hle : j3 ≤ l.length := by omega
    rw [← hi3] at hRR; obtain ⟨i0, hi0, _, hsz0, _⟩ := info_parts Hu.info5; have hcut := cut_mid (P := Tryz.prog) 22 5 .i64 .i64 Tryz.underlying22 hi0 1 hsz0 A l.length c (i3 : Int) (j3 : Int) (by omega) (by omega) (by omega) HR.out.cap; rw [Int.toNat_natCast, Int.toNat_natCast, show j3 - i3 = x.toNat by omega] at hcut; have hcd := Kd.C_drop (m := i3) (c := c) HR.out.C (by omega) HR.out.cap
    have hlt : ((l.drop i3).take x.toNat).length = x.toNat := by rw [List.length_take, List.length_drop]; omega
    have hct := Kd.C_take (m := x.toNat) hcd (by rw [List.length_drop]; omega); rw [hlt] at hct; obtain ⟨A2, hA2⟩ : ∃ A2, A2 = (if c = i3 then A else A.map (·.add (i3 * 1))) := ⟨_, rfl⟩
    replace hct : Kd.C (Kd.int .u8) w0 A2 x.toNat ((l.drop i3).take x.toNat) := by rw [hA2]; exact hct
    rw [← hA2] at hcut; have HC2 := Ak hct; obtain ⟨p4, hp4⟩ : ∃ p4, p4 = p3 + 8 * x.toNat := ⟨_, rfl⟩; rw [← hp4] at hRR; have HRR := Ak hRR.symm
    have ht : Int.tdiv (p3 : Int) 8 = (i3 : Int) := by rw [tdiv8, hi3]
    have HWJ := Ak (show wrap64 ((i3 : Int) + x) = (j3 : Int) by rw [wrap64_id (by omega) (by omega)]; omega); have HW3 := Ak (show wrap64 (i3 : Int) = (i3 : Int) from wrap64_id (by omega) (by omega)); have HX8 := Ak (show wrap64 ((p3 : Int) + wrap64 (8 * x)) = (p4 : Int) by rw [wrap64_id (x := 8 * x) (by omega) (by omega), wrap64_id (by omega) (by omega)]; omega); have HLE := Ak (show p4 ≤ 8 * l.length by omega); have HX16 := Ak (And.intro hxb.1 hx16); clear hxb hx16 hp2 hp2b hp3 hp3b hsh hct hcd hA2 hle hlt hsz0 hp4 hRR hal hi3 hj3
    go_upto_region 11 with (first | (go_at_call 22; have hcc := sget_told' HR.out _ g _ 16 16 rfl (.slice Ao out.length co) out most AT.out HP.out (by decide); rw [H1.out] at hcc; refine hcc.mono ?_; clear hcc; rintro e w' ⟨rfl, hq_, hat_, hm_⟩; replace AT := Ak hat_; replace MV := Ak (MV.out.trans hm_); replace HP := Ak hq_; clear hat_ hm_ hq_; clear H1) | (go_at_call 22; have hcc := sget_told' HR.out _ g _ 16 16 rfl (.slice Ao out.length co) out most AT.out HP.out (by decide); rw [H2.out] at hcc; refine hcc.mono ?_; clear hcc; rintro e w' ⟨rfl, hq_, hat_, hm_⟩; replace AT := Ak hat_; replace MV := Ak (MV.out.trans hm_); replace HP := Ak hq_; clear hat_ hm_ hq_; clear H2))
    replace AT := Ak (AT.out.on (below_drew (Below.refl _ _))); replace MV := Ak (MV.out.trans (Moved.of_below g _ (below_drew (Below.refl _ _)))); refine sq 12 (S := fun w' => w'.cell? ⟨g, 4, none⟩ = some (.int .i64 most) ∧ w'.cell? ⟨g, 3, none⟩ = some ((.slice Ao out.length co))) (ds := []) ⟨(blk_cell AT.out.blk 4).trans rfl, (blk_cell AT.out.blk 3).trans rfl⟩ fun hHeld => ?_; generalize w'.drew = wd at AT MV hHeld ⊢; refine pq 0 45 ?_; refine pq 1 46 ?_; refine pq 2 47 ?_; refine pq 3 48 ?_; refine pq 5 50 ?_; refine pq 6 51 ?_; refine pq 7 52 ?_; refine tq 4 49 ?_ hHeld; refine tq 8 53 ?_ hHeld; refine pq 9 54 ?_; refine pq 10 55 ?_; refine pq 11 56 ?_; refine dq ?_; clear hHeld
    go_upto_region 13 with (fail)
    replace AT := Ak (AT.out.on (below_drew (Below.refl _ _))); replace MV := Ak (MV.out.trans (Moved.of_below g _ (below_drew (Below.refl _ _)))); refine sq 13 (S := fun w' => w'.cell? ⟨g, 1, none⟩ = some (.int .i64 (NN l)) ∧ w'.cell? ⟨g, 2, none⟩ = some (.int .i64 (p3 : Int))) (ds := []) ⟨(blk_cell AT.out.blk 1).trans rfl, (blk_cell AT.out.blk 2).trans rfl⟩ fun hHeld => ?_; generalize wd.drew = we at AT MV hHeld ⊢; refine pq 0 57 ?_; refine pq 1 58 ?_; refine pq 2 59 ?_; refine pq 3 60 ?_; refine pq 5 62 ?_; refine pq 6 63 ?_; refine pq 7 64 ?_; refine pq 10 67 ?_; refine pq 11 68 ?_; refine tq 4 61 ?_ hHeld; refine tq 8 65 ?_ hHeld; refine pq 9 66 ?_; refine pq 12 69 ?_; refine dq ?_; clear hHeld; have hwj := HWJ.out; have hw3 := HW3.out; clear HWJ HW3
    go_upto_region 15 with (fail)
    have BG := Ak AT.out.blk; replace AT := Ak (AT.out.on (below_drew (Below.refl _ _))); replace MV := Ak (MV.out.trans (Moved.of_below g _ (below_drew (Below.refl _ _)))); replace BG := Ak (blk_drew BG.out); refine sq 27 (S := fun w' => w'.cell? ⟨g, 0, none⟩ = some (.slice A l.length c) ∧ w'.cell? ⟨g, 2, none⟩ = some (.int .i64 (p3 : Int)) ∧ w'.cell? ⟨g, 3, none⟩ = some ((.slice Ao out.length co))) (ds := [26]) ⟨(blk_cell BG.out 0).trans rfl, (blk_cell BG.out 2).trans rfl, (blk_cell BG.out 3).trans rfl⟩ fun hHeld => ?_; generalize we.drew = wf at AT MV BG hHeld ⊢; refine pq 0 70 ?_; refine pq 1 71 ?_; refine pq 2 72 ?_; refine pq 3 73 ?_; refine pq 5 75 ?_; refine pq 6 76 ?_; refine pq 7 77 ?_; refine pq 8 78 ?_; refine pq 10 80 ?_; refine pq 11 81 ?_; refine pq 12 82 ?_; refine pq 15 85 ?_; refine pq 16 86 ?_; refine pq 17 87 ?_; refine pq 20 90 ?_; refine tq 4 74 ?_ hHeld; refine tq 9 79 ?_ hHeld; refine tq 13 83 ?_ hHeld; refine pq 14 84 ?_; refine tq 18 88 ?_ hHeld; refine pq 19 89 ?_; refine pq 21 91 ?_; refine pq 22 92 ?_; refine oq 23 93 fun K hK => ?_; clear ht hw3 hwj hcut; refine Kd.R_append_rows_step (Kd.int .u8) (w0 := w0) w0.heap.size (by rfl) (.tmp 74) (.tmp 92) 22 5 (.int .u8 0) 1 rfl Tryz.underlying22 Hu.info5 rfl (by decide) (by omega) (.slice Ao out.length co) out ((l.drop i3).take x.toNat) _ _ _ (fun _ => True) (fun _ => False) rfl rfl AT.out.row (Kd.C_below HC2.out AT.out.below) (fun _ _ h => h) (fun _ h => h.elim) (fun _ _ => trivial) AT.out.below AT.out.below.size ?aL ?_
    (case aL => have h1_ := HM0.out; have h2_ := HM1.out; have h3_ := HX16.out; omega)
    intro v1 w6 ho hb hg hat; obtain ⟨ys, hys⟩ : ∃ ys, ys = out ++ (l.drop i3).take x.toNat := ⟨_, rfl⟩; rw [← hys] at ho; have HYS := Ak hys; clear hys; obtain ⟨A1, c1, ev⟩ := Kd.R_slice ho; subst ev; have hap := AT.out.appended ho hb hg hat; have hbg := blk_grown BG.out hg (Kd.R_ne AT.out.row AT.out.blk (by decide)); replace BG := Ak (hbg); replace AP := Ak (hap); clear hbg hap ho hb hg hat; refine hK.out _ _ ⟨(blk_cell BG.out 0).trans rfl, (blk_cell BG.out 2).trans rfl, (blk_cell BG.out 3).trans rfl⟩ (fun hHeld => ?_); clear hK K; refine nq 93 ?_; refine pq 24 94 ?_; refine pq 25 95 ?_; refine lq 26 fun K hK => ?_; have hz := ((blk_cell BG.out 3).trans rfl : w6.cell? ⟨g, 3, none⟩ = some (.slice Ao out.length co)); have hf := blk_frozen BG.out 3; refine skip_ (w1 := ?_) (by rfl) rfl ?_ ?_; rotate_left
    · go_simp
      rfl
    refine hK.out _ _ ?_; clear hK K; refine dq ?_; clear hz hf hHeld BG; generalize w6.setCell ⟨g, 3, none⟩ (.slice A1 ys.length c1) = w7 at AP ⊢; obtain ⟨hc2, hf2, hc3, hf3⟩ := st_c2 AP.out.1; clear hc3 hf3; have hx8 := HX8.out; go_wp2; go_ret; rw [HRR.out, ← HYS.out]; exact ⟨rfl, HLE.out, _, AP.out.1.setAt _, (MV.out.trans AP.out.2).set_ 2 _⟩
end
end Go.Proofs.YtgflkkjhckcipaaGreatDoor.Pr

