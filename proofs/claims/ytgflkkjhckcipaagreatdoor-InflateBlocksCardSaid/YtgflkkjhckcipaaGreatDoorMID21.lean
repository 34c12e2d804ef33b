-- Texts by hand and by programs of this session, joined (wip/tool/merge.py).
import Derived.Test.YtgflkkjhckcipaaGreatDoorMID15
import Derived.Shelf.Abstract
import Derived.Shelf.RegionOpen
import Derived.OwnWalkIn
import Derived.TacticsInMore
import Derived.LoopNIn
import Derived.LoopIn
import Derived.Test.YtgflkkjhckcipaaGreatDoorMID19
import Derived.Test.YtgflkkjhckcipaaGreatDoorMID12
import Derived.Test.YtgflkkjhckcipaaGreatDoorMID20
import Derived.Test.YtgflkkjhckcipaaGreatDoorMID13
-- YtgflkkjhckcipaaGreatDoorPv5
set_option maxHeartbeats 16000000
set_option maxRecDepth 1000000
namespace Go.Proofs.YtgflkkjhckcipaaGreatDoor.Pv
open Go.RowKit Go.Proofs.YtgflkkjhckcipaaGreatDoorW.PrintWords Go.Proofs.YtgflkkjhckcipaaGreatDoorW.PrintLast Go.Proofs.YtgflkkjhckcipaaGreatDoorW.PrintMore
attribute [local go_sem] max2_int min2_int max_two min_two max_three min_three max_four min_four   -- for this text's walks alone
set_option linter.unusedVariables false
set_option linter.unusedSimpArgs false

def valiseref09_None.l0 : Nat → List Int → Int → Option (Bool)
  | 0, _, _ => none
  | k + 1, x0, x3 => if x3 < (x0.length : Int) then (if 0 ≤ x3 then (if (rd x0 x3) > 0 then (some false) else (valiseref09_None.l0 k x0 (wrap64 (x3 + 1)))) else (none)) else (some true)
def valiseref09_None.f (k : Nat) (l0 : List Int) : Option (Bool) := valiseref09_None.l0 k l0 0
theorem valiseref09_None.calls (k : Nat) (A0 : Option Addr) (c0 : Nat) (l0 : List Int) (r : Bool) (w : World) (hr0 : Kd.C (Kd.int .i64) w A0 l0.length l0) (hc0 : l0.length ≤ c0) (h : valiseref09_None.f k l0 = some r) :
    Calls Tryz.prog 41 #[.slice A0 l0.length c0] w fun e w' => e = .returned (.bool r) ∧ Drawn0 w w' := by
  have HR0 := Ak hr0; have HC0 := Ak hc0; clear hr0 hc0; have H : (valiseref09_None.l0 k l0 0) = some r := h; clear h; have H' := Ak H; clear H; go_enter Tryz.func41, Tryz.ntmps41; go_wp2
  go_loopg [3] k (fun kq v3 w' => ∃ (x3_1 : Int), v3 = .int .i64 x3_1 ∧ Aside0 (valiseref09_None.l0 kq l0 x3_1 = some r) ∧ Aside0 (kq ≤ k) ∧ Drawn0 w w')
  case atStart => exact ⟨(0), (by rfl), H', ⟨Nat.le_refl _⟩, by repeat (exact Drawn0.refl _)⟩
  case round =>
    clear H'; obtain ⟨x3_1, rfl, HA, HK1, ⟨m1, rfl⟩⟩ := hrel
    cases gk with
    | zero => exact absurd HA.out (by simp [valiseref09_None.l0])
    | succ k1 => ?_
    have H := HA.out; clear HA; simp only [valiseref09_None.l0] at H
    by_cases c2 : x3_1 < (l0.length : Int)
    rotate_left
    · rw [if_neg c2] at H; have c2b0 : decide (x3_1 < (l0.length : Int)) = false := decide_eq_false c2; clear c2; obtain rfl := Option.some.inj H; go_wp2; go_ret; exact ⟨by rfl, by repeat (first | exact Drawn0.refl _ | apply Drawn0.step)⟩
    rw [if_pos c2] at H; have c2b0 : decide (x3_1 < (l0.length : Int)) = true := decide_eq_true c2; clear c2
    by_cases c3 : 0 ≤ x3_1
    rotate_left
    · rw [if_neg c3] at H; exact absurd H (by simp)
    rw [if_pos c3] at H; have c3b0 : decide (0 ≤ x3_1) = true := decide_eq_true c3; clear c3
    by_cases c4 : (rd l0 x3_1) > 0
    · rw [if_pos c4] at H; have c4b0 : decide (0 < (rd l0 x3_1)) = true := decide_eq_true c4; clear c4; obtain rfl := Option.some.inj H; have p211 : 0 ≤ (x3_1 : Int) := of_decide_eq_true (by (with_reducible assumption)); have q211 : x3_1 < (l0.length : Int) := of_decide_eq_true (by (with_reducible assumption)); obtain ⟨ad211, e211, hx211_0⟩ := Kd.at_int HR0.out x3_1 p211 q211; cases e211; replace p211 := eq_true p211; replace q211 := eq_true q211; go_wp2; go_ret; exact ⟨by rfl, by repeat (first | exact Drawn0.refl _ | apply Drawn0.step)⟩
    rw [if_neg c4] at H; have c4b0 : decide (0 < (rd l0 x3_1)) = false := decide_eq_false c4; clear c4; have H' := Ak H; clear H; have p211 : 0 ≤ (x3_1 : Int) := of_decide_eq_true (by (with_reducible assumption)); have q211 : x3_1 < (l0.length : Int) := of_decide_eq_true (by (with_reducible assumption)); obtain ⟨ad211, e211, hx211_0⟩ := Kd.at_int HR0.out x3_1 p211 q211; cases e211; replace p211 := eq_true p211; replace q211 := eq_true q211; go_wp2
    go_roundg k1
    case measure => have := HK1.out; omega
    case rel => exact ⟨(wrap64 (x3_1 + 1)), (by rfl), H', ⟨by have := HK1.out; omega⟩, by repeat (first | exact Drawn0.refl _ | apply Drawn0.step)⟩

end Go.Proofs.YtgflkkjhckcipaaGreatDoor.Pv

-- YtgflkkjhckcipaaGreatDoorIf48
namespace Go.Proofs.YtgflkkjhckcipaaGreatDoor.Pr
open Go.RowKit Go.Shelf Go.Proofs.YtgflkkjhckcipaaGreatDoorW.PrintWords Go.Proofs.YtgflkkjhckcipaaGreatDoorW.PrintLast Go.Proofs.YtgflkkjhckcipaaGreatDoorW.PrintMore
set_option linter.unusedVariables false
set_option linter.unusedSimpArgs false
open Go.Proofs.YtgflkkjhckcipaaGreatDoor.Pv
theorem rlenBits_all : ∀ i : Fin 288, valiseref07_LenBits.f (i.val : Int) = some (match lenP (i.val : Int) with | some (k, _) => ((k : Int), 0) | none => (0, 13)) := by decide +kernel
theorem rdistBits_all : ∀ i : Fin 288, valiseref07_DistBits.f (i.val : Int) = some (match distP (i.val : Int) with | some (k, _) => ((k : Int), 0) | none => (0, 13)) := by decide +kernel
theorem rlenBits_eq {s : Int} (h0 : 0 ≤ s) (h1 : s < 288) : valiseref07_LenBits.f s = some (match lenP s with | some (k, _) => ((k : Int), 0) | none => (0, 13)) := by
  have h := rlenBits_all ⟨s.toNat, by omega⟩
  rwa [show ((s.toNat : Nat) : Int) = s by omega] at h
theorem rdistBits_eq {s : Int} (h0 : 0 ≤ s) (h1 : s < 288) : valiseref07_DistBits.f s = some (match distP s with | some (k, _) => ((k : Int), 0) | none => (0, 13)) := by
  have h := rdistBits_all ⟨s.toNat, by omega⟩
  rwa [show ((s.toNat : Nat) : Int) = s by omega] at h
def rlenOk (s : Int) : Bool := match lenP s with
  | none => true
  | some (k, b) => decide (k ≤ 5) && decide (3 ≤ b) && decide (b + 2 ^ k ≤ 259) && (shl .i64 1 (k : Int) == 2 ^ k) && decide (0 ≤ wrap64 (s - 257)) && decide (wrap64 (s - 257) < 29) && (match valiseref07_lens.f with | some r => decide (r.1.length = 29) && (rd r.1 (wrap64 (s - 257)) == (b : Int)) | none => false)
def rdistOk (s : Int) : Bool := match distP s with
  | none => true
  | some (k, b) => decide (k ≤ 13) && decide (1 ≤ b) && decide (b + 2 ^ k ≤ 32769) && (shl .i64 1 (k : Int) == 2 ^ k) && decide (0 ≤ s) && decide (s < 30) && (match valiseref07_dists.f with | some r => decide (r.1.length = 30) && (rd r.1 s == (b : Int)) | none => false)
theorem rlen_all : ∀ i : Fin 288, rlenOk (i.val : Int) = true := by decide +kernel
theorem rdist_all : ∀ i : Fin 288, rdistOk (i.val : Int) = true := by decide +kernel
theorem rlenOf_eq {s : Int} {k b : Nat} {v : Int} (h0 : 0 ≤ s) (h1 : s < 288) (hp : lenP s = some (k, b)) (hv0 : 0 ≤ v) (hv1 : v < 2 ^ k) : valiseref07_LenOf.f s v = some ((b : Int) + v, 0) ∧ k ≤ 5 ∧ 3 ≤ b ∧ b + 2 ^ k ≤ 259 := by
  have h := rlen_all ⟨s.toNat, by omega⟩; rw [show ((s.toNat : Nat) : Int) = s by omega] at h; unfold rlenOk at h; rw [hp] at h; have hb := rlenBits_eq h0 h1; rw [hp] at hb
  cases hL : valiseref07_lens.f with
  | none => rw [hL] at h; simp at h
  | some r => ?_
  rw [hL] at h; simp only [Bool.and_eq_true, decide_eq_true_eq, beq_iff_eq] at h; obtain ⟨⟨⟨⟨⟨⟨h2, h3⟩, h4⟩, h5⟩, h6⟩, h7⟩, h8, h9⟩ := h; have h10 : (2 : Int) ^ k ≤ 2 ^ 5 := pow_le2 h2; refine ⟨?_, h2, h3, h4⟩; unfold valiseref07_LenOf.f; rw [hb, hL]; simp only [Option.bind_some]; rw [if_pos trivial, if_neg (by omega), if_pos (by omega), h5, if_neg (by omega), if_pos h6, if_pos (by rw [h8]; exact h7), h9, wrap64_id (by omega) (by have h11 := Nat.le_trans (Nat.le_add_right b (2 ^ k)) h4; omega)]
theorem rdistOf_eq {s : Int} {k b : Nat} {v : Int} (h0 : 0 ≤ s) (h1 : s < 288) (hp : distP s = some (k, b)) (hv0 : 0 ≤ v) (hv1 : v < 2 ^ k) : valiseref07_DistOf.f s v = some ((b : Int) + v, 0) ∧ k ≤ 13 ∧ 1 ≤ b ∧ b + 2 ^ k ≤ 32769 := by
  have h := rdist_all ⟨s.toNat, by omega⟩; rw [show ((s.toNat : Nat) : Int) = s by omega] at h; unfold rdistOk at h; rw [hp] at h; have hb := rdistBits_eq h0 h1; rw [hp] at hb
  cases hL : valiseref07_dists.f with
  | none => rw [hL] at h; simp at h
  | some r => ?_
  rw [hL] at h; simp only [Bool.and_eq_true, decide_eq_true_eq, beq_iff_eq] at h; obtain ⟨⟨⟨⟨⟨⟨h2, h3⟩, h4⟩, h5⟩, h6⟩, h7⟩, h8, h9⟩ := h; have h10 : (2 : Int) ^ k ≤ 2 ^ 13 := pow_le2 h2; refine ⟨?_, h2, h3, h4⟩; unfold valiseref07_DistOf.f; rw [hb, hL]; simp only [Option.bind_some]; rw [if_pos trivial, if_neg (by omega), if_pos (by omega), h5, if_neg (by omega), if_pos h6, if_pos (by rw [h8]; exact h7), h9, wrap64_id (by omega) (by have h11 := Nat.le_trans (Nat.le_add_right b (2 ^ k)) h4; omega)]
theorem rnone_l0 {z : List Int} (hz : ∀ x ∈ z, 0 ≤ x) (hl : z.length ≤ 1000000) : ∀ d i k, z.length = i + d → d < k → valiseref09_None.l0 k z (i : Int) = some ((z.drop i).all (· == 0))
  | _, _, 0, _, hk => absurd hk (Nat.not_lt_zero _)
  | 0, i, k + 1, he, _ => by
    rw [valiseref09_None.l0, if_neg (by omega), List.drop_of_length_le (by omega)]
    rfl
  | d + 1, i, k + 1, he, hk => by
    have hi : i < z.length := by omega
    have h0 := hz _ (List.getElem_mem hi); rw [valiseref09_None.l0, if_pos (by omega), if_pos (by omega), rd_nat, List.getD_eq_getElem?_getD, List.getElem?_eq_getElem hi, List.drop_eq_getElem_cons hi, List.all_cons]; simp only [Option.getD_some]
    by_cases hx : z[i] > 0
    · rw [if_pos hx, beq_eq_false_iff_ne.2 (by omega)]
      rfl
    · rw [if_neg hx, show z[i] = 0 by omega, wrap64_id (by omega) (by omega), show (i : Int) + 1 = ((i + 1 : Nat) : Int) by omega, rnone_l0 hz hl d (i + 1) k (by omega) (by omega)]
      rfl
theorem rnone_eq {z : List Int} (hz : ∀ x ∈ z, 0 ≤ x) (hl : z.length ≤ 1000000) {k : Nat} (hk : z.length < k) : valiseref09_None.f k z = some (z.all (· == 0)) := rnone_l0 hz hl z.length 0 k (by omega) hk
def rowC (z : List Int) : Option (List Int) := if z.all (· == 0) = true then none else some z
-- YtgflkkjhckcipaaGreatDoorIf49
section
attribute [local go_sem] Oper.semAt_some
theorem RowAt.smoved {w0 w w' : World} {g c : Nat} {A : Option Addr} {l : List Int} {N at_ : Int} {v v' : Value} {out : List Int} {most : Int} {Ad : Option Addr} {z : List Int} (h : RowAt w Ad z) (H : StAt w0 w g A c l N at_ v out most) (hm : Moved w w' g v v') : RowAt w' Ad z := h.same fun k cells hc => by
  refine hm.keep k (blk_lt hc) (fun e => ?_) (fun e => ?_)
  · subst e; have := H.blk; rw [hc] at this
    injection this with this
    injection this with _ this _
    exact absurd this (by decide)
  · obtain ⟨cells', hc'⟩ := Kd.R_typed H.row k e.symm; rw [hc] at hc'
    injection hc' with hc'
    injection hc' with _ hc' _
    exact absurd hc' (by decide)
structure RowC (z : List Int) (cd : Nat) : Prop where
  nn : ∀ x ∈ z, 0 ≤ x
  len : z.length ≤ 1000
  cap : z.length ≤ cd
  tbl : z.all (· == 0) = false → Tbl z
theorem scopied_told {w0 : World} {A : Option Addr} {c : Nat} {l : List Int} (hr : RowOk w0 A c l) (w : World) (g p : Nat) (v : Value) (out : List Int) (most : Int) (H : StAt w0 w g A c l (NN l) (p : Int) v out most) (hp : p ≤ 8 * l.length) (hm0 : (out.length : Int) ≤ most) (hm1 : most ≤ 65536) (s : Int) (hs0 : 0 ≤ s) (hs1 : s < 288) (Ad : Option Addr) (cd : Nat) (z : List Int) (hd : RowAt w Ad z) (hz : RowC z cd) :
    Calls Tryz.prog 38 #[.pointer (some ⟨g, 0, none⟩), .int .i64 s, .slice Ad z.length cd] w fun e w' => ToldS w0 w g A c l v most e w' (copiedM l most (rowC z) s p out) := by
  obtain ⟨Ao, co, rfl⟩ := Kd.R_slice H.row; have hlb := rlenBits_eq hs0 hs1; have HR := Ak hr; have HX := Ak H; have AT := Ak H; have MV := Ak (Moved.of_below g (.slice Ao out.length co) (Below.refl w.heap.size w)); have HP := Ak hp; have huR := Tryz.underlying48; have huB := Tryz.underlying43; have HD := Ak hd; have HZ := Ak hz; have HM0 := Ak hm0; have HM1 := Ak hm1; obtain ⟨R, hR⟩ : ∃ R, copiedM l most (rowC z) s p out = R := ⟨_, rfl⟩; rw [hR]; have hRR := hR; clear hR; unfold copiedM at hRR; clear H hp hd hm0 hm1 hr hz; go_enter Tryz.func38, Tryz.ntmps38
  cases hlp : lenP s with
  | none =>
    rw [hlp] at hlb hRR; have HRR := Ak hRR.symm; have HLB := Ak hlb; clear hlb hlp hRR
    go_wp2_with (go_at_call 55; refine (valiseref07_LenBits.calls s 0 13 _ HLB.out).mono ?_; rintro e w' ⟨rfl, hb⟩; replace AT := Ak (AT.out.on hb); replace MV := Ak (MV.out.trans (Moved.of_below g _ hb)); replace HD := Ak (HD.out.on hb); clear hb; clear HLB)
    go_ret; rw [HRR.out]; exact ⟨rfl, HX.out.between AT.out MV.out.size, by decide⟩
  | some kb => ?_
  obtain ⟨k, base⟩ := kb; rw [hlp] at hlb hRR; have HLB := Ak hlb; have hk5 := (rlenOf_eq hs0 hs1 hlp (v := 0) (Int.le_refl _) (pow_pos2 k)).2; have HK := Ak (show k ≤ 32 by omega); clear hlb; dsimp only at hRR
  go_upto_region 4 with (go_at_call 55; refine (valiseref07_LenBits.calls s (k : Int) 0 _ HLB.out).mono ?_; rintro e w' ⟨rfl, hb⟩; replace AT := Ak (AT.out.on hb); replace MV := Ak (MV.out.trans (Moved.of_below g _ hb)); replace HD := Ak (HD.out.on hb); clear hb; clear HLB)
  cases h1 : bitsM l p k with
  | error er =>
    rw [h1] at hRR; have HRR := Ak hRR.symm; have H1 := Ak h1; clear h1 hRR hlp hk5
    go_wp2_with (go_at_call 22; have hcc := sget_told HR.out _ g _ k (.slice Ao out.length co) out most AT.out HP.out HK.out; rw [H1.out] at hcc; refine hcc.mono ?_; clear hcc; rintro e w' ⟨rfl, hb, hne_⟩; have qe_ := eq_false hne_; have qeb_ := bne_iff_ne.2 hne_; have HNE := Ak hne_; clear hne_)
    go_ret; rw [HRR.out]; exact ⟨rfl, (HX.out.between AT.out MV.out.size).trans hb, HNE.out⟩
  | ok r1 => ?_
  obtain ⟨x, p1⟩ := r1; rw [h1] at hRR; dsimp only at hRR; obtain ⟨hxv, hp1, hp1b⟩ := bitsM_ok h1; have hxr := getV_range l p k; rw [← hxv] at hxr; obtain ⟨n, hn⟩ : ∃ n, n = base + x.toNat := ⟨_, rfl⟩; have hlo := (rlenOf_eq hs0 hs1 hlp hxr.1 hxr.2).1; rw [show (base : Int) + x = (n : Int) by omega] at hlo; have HLO := Ak hlo; have HXB := Ak (show n ≤ 258 ∧ 3 ≤ n from by have h2 : ((2 ^ k : Nat) : Int) = (2 : Int) ^ k := (by simp); have h3 := hk5.2; omega); have H1 := Ak h1; rw [← hn] at hRR; clear h1 hxv hp1 hp1b hxr hlp hk5 hlo hn
  go_upto_region 7 with (go_at_call 22; have hcc := sget_told HR.out _ g _ k (.slice Ao out.length co) out most AT.out HP.out HK.out; rw [H1.out] at hcc; refine hcc.mono ?_; clear hcc; rintro e w' ⟨rfl, hq_, hat_, hm_⟩; replace MV := Ak (MV.out.trans hm_); replace HP := Ak hq_; replace HD := Ak (HD.out.smoved AT.out hm_); replace AT := Ak hat_; clear hat_ hm_ hq_; clear H1)
  cases hza : z.all (· == 0) with
  | true =>
    rw [show rowC z = none from by unfold rowC; rw [if_pos hza]] at hRR; have HRR := Ak hRR.symm; have hnn := rnone_eq HZ.out.nn (by have := HZ.out.len; omega) (k := 1001) (by have := HZ.out.len; omega); rw [hza] at hnn; have HNN := Ak hnn; clear hza hRR hnn
    go_wp2_with (first | (go_at_call 56; refine (valiseref07_LenOf.calls s x (n : Int) 0 _ HLO.out).mono ?_; rintro e w' ⟨rfl, hb⟩; replace AT := Ak (AT.out.on hb); replace MV := Ak (MV.out.trans (Moved.of_below g _ hb)); replace HD := Ak (HD.out.on hb); clear hb; clear HLO) | (go_at_call 41; refine (valiseref09_None.calls 1001 Ad cd z true _ HD.out.C HZ.out.cap HNN.out).mono ?_; rintro e w' ⟨rfl, hd_⟩; have hb := hd_.below; clear hd_; replace AT := Ak (AT.out.on hb); replace MV := Ak (MV.out.trans (Moved.of_below g _ hb)); replace HD := Ak (HD.out.on hb); clear hb; clear HNN))
    go_ret; rw [HRR.out]; exact ⟨rfl, HX.out.between AT.out MV.out.size, by decide⟩
  | false => ?_
  rw [show rowC z = some z from by unfold rowC; rw [if_neg (by rw [hza]; decide)]] at hRR; have hnn := rnone_eq HZ.out.nn (by have := HZ.out.len; omega) (k := 1001) (by have := HZ.out.len; omega); rw [hza] at hnn; have HNN := Ak hnn; have HT := Ak (HZ.out.tbl hza); clear hza hnn
  go_upto_region 10 with (first | (go_at_call 56; refine (valiseref07_LenOf.calls s x (n : Int) 0 _ HLO.out).mono ?_; rintro e w' ⟨rfl, hb⟩; replace AT := Ak (AT.out.on hb); replace MV := Ak (MV.out.trans (Moved.of_below g _ hb)); replace HD := Ak (HD.out.on hb); clear hb; clear HLO) | (go_at_call 41; refine (valiseref09_None.calls 1001 Ad cd z false _ HD.out.C HZ.out.cap HNN.out).mono ?_; rintro e w' ⟨rfl, hd_⟩; have hb := hd_.below; clear hd_; replace AT := Ak (AT.out.on hb); replace MV := Ak (MV.out.trans (Moved.of_below g _ hb)); replace HD := Ak (HD.out.on hb); clear hb; clear HNN))
  cases h2 : symM l (some z) p1 with
  | error er =>
    rw [h2] at hRR; have HRR := Ak hRR.symm; have H2 := Ak h2; clear h2 hRR
    go_wp2_with (go_at_call 37; have hcc := ssym_told HR.out _ g _ (.slice Ao out.length co) out most AT.out HP.out Ad cd z HD.out.C HZ.out.cap HT.out; rw [H2.out] at hcc; refine hcc.mono ?_; clear hcc; rintro e w' ⟨rfl, hb, hne_⟩; have qe_ := eq_false hne_; have qeb_ := bne_iff_ne.2 hne_; have HNE := Ak hne_; clear hne_)
    go_ret; rw [HRR.out]; exact ⟨rfl, (HX.out.between AT.out MV.out.size).trans hb, HNE.out⟩
  | ok r2 => ?_
  obtain ⟨d, p2⟩ := r2; rw [h2] at hRR; dsimp only at hRR; obtain ⟨hd0, hd1, _⟩ := symM_ok HT.out.1 HP.out h2; have hdb := rdistBits_eq hd0 hd1; have H2 := Ak h2; clear h2
  go_upto_region 13 with (go_at_call 37; have hcc := ssym_told HR.out _ g _ (.slice Ao out.length co) out most AT.out HP.out Ad cd z HD.out.C HZ.out.cap HT.out; rw [H2.out] at hcc; refine hcc.mono ?_; clear hcc; rintro e w' ⟨rfl, hq_, hat_, hm_⟩; replace MV := Ak (MV.out.trans hm_); replace HP := Ak hq_; replace HD := Ak (HD.out.smoved AT.out hm_); replace AT := Ak hat_; clear hat_ hm_ hq_; clear H2)
  cases hdp : distP d with
  | none =>
    rw [hdp] at hdb hRR; have HRR := Ak hRR.symm; have HDB := Ak hdb; clear hdb hdp hRR
    go_wp2_with (go_at_call 57; refine (valiseref07_DistBits.calls d 0 13 _ HDB.out).mono ?_; rintro e w' ⟨rfl, hb⟩; replace AT := Ak (AT.out.on hb); replace MV := Ak (MV.out.trans (Moved.of_below g _ hb)); replace HD := Ak (HD.out.on hb); clear hb; clear HDB)
    go_ret; rw [HRR.out]; exact ⟨rfl, HX.out.between AT.out MV.out.size, by decide⟩
  | some kb2 => ?_
  obtain ⟨kd, bd⟩ := kb2; rw [hdp] at hdb hRR; have HDB := Ak hdb; have hbd := (rdistOf_eq hd0 hd1 hdp (v := 0) (Int.le_refl _) (pow_pos2 kd)).2; have HKD := Ak (show kd ≤ 32 by omega); clear hdb; dsimp only at hRR
  go_upto_region 16 with (go_at_call 57; refine (valiseref07_DistBits.calls d (kd : Int) 0 _ HDB.out).mono ?_; rintro e w' ⟨rfl, hb⟩; replace AT := Ak (AT.out.on hb); replace MV := Ak (MV.out.trans (Moved.of_below g _ hb)); replace HD := Ak (HD.out.on hb); clear hb; clear HDB)
  cases h3 : bitsM l p2 kd with
  | error er =>
    rw [h3] at hRR; have HRR := Ak hRR.symm; have H3 := Ak h3; clear h3 hRR hdp hbd
    go_wp2_with (go_at_call 22; have hcc := sget_told HR.out _ g _ kd (.slice Ao out.length co) out most AT.out HP.out HKD.out; rw [H3.out] at hcc; refine hcc.mono ?_; clear hcc; rintro e w' ⟨rfl, hb, hne_⟩; have qe_ := eq_false hne_; have qeb_ := bne_iff_ne.2 hne_; have HNE := Ak hne_; clear hne_)
    go_ret; rw [HRR.out]; exact ⟨rfl, (HX.out.between AT.out MV.out.size).trans hb, HNE.out⟩
  | ok r3 => ?_
  obtain ⟨y, p3⟩ := r3; rw [h3] at hRR; dsimp only at hRR; obtain ⟨hyv, hp3, hp3b⟩ := bitsM_ok h3; have hyr := getV_range l p2 kd; rw [← hyv] at hyr; obtain ⟨far, hfar⟩ : ∃ far, far = bd + y.toNat := ⟨_, rfl⟩; have hdo := (rdistOf_eq hd0 hd1 hdp hyr.1 hyr.2).1; rw [show (bd : Int) + y = (far : Int) by omega] at hdo; have HDO := Ak hdo; have HFB := Ak (show far ≤ 32768 ∧ 1 ≤ far from by have h2 : ((2 ^ kd : Nat) : Int) = (2 : Int) ^ kd := (by simp); have h3 := hbd.2; omega); have H3 := Ak h3; rw [← hfar] at hRR; clear h3 hyv hp3 hp3b hyr hdp hbd hdo hfar
  go_upto_region 19 with (go_at_call 22; have hcc := sget_told HR.out _ g _ kd (.slice Ao out.length co) out most AT.out HP.out HKD.out; rw [H3.out] at hcc; refine hcc.mono ?_; clear hcc; rintro e w' ⟨rfl, hq_, hat_, hm_⟩; replace MV := Ak (MV.out.trans hm_); replace HP := Ak hq_; replace HD := Ak (HD.out.smoved AT.out hm_); replace AT := Ak hat_; clear hat_ hm_ hq_; clear H3)
  clear HD HZ HT
  by_cases hfo : far > out.length
  · rw [if_pos hfo] at hRR; have HRR := Ak hRR.symm; have q9 := eq_true (show (out.length : Int) < (far : Int) by omega); have q9b := eq_true (show out.length < far by omega); clear hfo hRR
    go_wp2_with (go_at_call 58; refine (valiseref07_DistOf.calls d y (far : Int) 0 _ HDO.out).mono ?_; rintro e w' ⟨rfl, hb⟩; replace AT := Ak (AT.out.on hb); replace MV := Ak (MV.out.trans (Moved.of_below g _ hb)); clear hb HDO; have hc3 : w'.cell? ⟨g, 3, none⟩ = some (.slice Ao out.length co) := (blk_cell AT.out.blk 3).trans rfl)
    go_ret; rw [HRR.out]; exact ⟨rfl, HX.out.between AT.out MV.out.size, by decide⟩
  rw [if_neg hfo] at hRR; have HFO := Ak (show far ≤ out.length by omega); have q9 := eq_false (show ¬ (out.length : Int) < (far : Int) by omega); have q9b := eq_false (show ¬ out.length < far by omega)
  have hwm : wrap64 (most - (out.length : Int)) = most - (out.length : Int) := by have := HM0.out; have := HM1.out; exact wrap64_id (by omega) (by omega)
  clear hfo
  by_cases hrm : (n : Int) > most - (out.length : Int)
  · rw [if_pos hrm] at hRR; have HRR := Ak hRR.symm; have q11 := eq_true (show wrap64 (most - (out.length : Int)) < (n : Int) by rw [hwm]; exact hrm); clear hwm hrm hRR
    go_upto_region 22 with (go_at_call 58; refine (valiseref07_DistOf.calls d y (far : Int) 0 _ HDO.out).mono ?_; rintro e w' ⟨rfl, hb⟩; replace AT := Ak (AT.out.on hb); replace MV := Ak (MV.out.trans (Moved.of_below g _ hb)); clear hb HDO; have hc3 : w'.cell? ⟨g, 3, none⟩ = some (.slice Ao out.length co) := (blk_cell AT.out.blk 3).trans rfl)
    clear hc3; replace AT := Ak (AT.out.on (below_drew (Below.refl _ _))); replace MV := Ak (MV.out.trans (Moved.of_below g _ (below_drew (Below.refl _ _)))); refine sq 12 (S := fun w' => w'.cell? ⟨g, 4, none⟩ = some (.int .i64 most) ∧ w'.cell? ⟨g, 3, none⟩ = some ((.slice Ao out.length co))) (ds := []) ⟨(blk_cell AT.out.blk 4).trans rfl, (blk_cell AT.out.blk 3).trans rfl⟩ fun hHeld => ?_; generalize w'.drew = wd at AT MV hHeld ⊢; refine pq 0 78 ?_; refine pq 1 79 ?_; refine pq 2 80 ?_; refine pq 3 81 ?_; refine pq 5 83 ?_; refine pq 6 84 ?_; refine pq 7 85 ?_; refine tq 4 82 ?_ hHeld; refine tq 8 86 ?_ hHeld; refine pq 9 87 ?_; refine pq 10 88 ?_; refine pq 11 89 ?_; refine dq ?_; clear hHeld; go_wp2; go_ret; rw [HRR.out]; exact ⟨rfl, HX.out.between AT.out MV.out.size, by decide⟩
  rw [if_neg hrm] at hRR; have HRR := Ak hRR.symm; have HRn := Ak (show (n : Int) ≤ most - (out.length : Int) by omega); have q11 := eq_false (show ¬ wrap64 (most - (out.length : Int)) < (n : Int) by rw [hwm]; exact hrm); clear hwm hrm hRR
  go_upto_region 22 with (go_at_call 58; refine (valiseref07_DistOf.calls d y (far : Int) 0 _ HDO.out).mono ?_; rintro e w' ⟨rfl, hb⟩; replace AT := Ak (AT.out.on hb); replace MV := Ak (MV.out.trans (Moved.of_below g _ hb)); clear hb HDO; have hc3 : w'.cell? ⟨g, 3, none⟩ = some (.slice Ao out.length co) := (blk_cell AT.out.blk 3).trans rfl)
  clear hc3; replace AT := Ak (AT.out.on (below_drew (Below.refl _ _))); replace MV := Ak (MV.out.trans (Moved.of_below g _ (below_drew (Below.refl _ _)))); refine sq 12 (S := fun w' => w'.cell? ⟨g, 4, none⟩ = some (.int .i64 most) ∧ w'.cell? ⟨g, 3, none⟩ = some ((.slice Ao out.length co))) (ds := []) ⟨(blk_cell AT.out.blk 4).trans rfl, (blk_cell AT.out.blk 3).trans rfl⟩ fun hHeld => ?_; generalize w'.drew = wd at AT MV hHeld ⊢; refine pq 0 78 ?_; refine pq 1 79 ?_; refine pq 2 80 ?_; refine pq 3 81 ?_; refine pq 5 83 ?_; refine pq 6 84 ?_; refine pq 7 85 ?_; refine tq 4 82 ?_ hHeld; refine tq 8 86 ?_ hHeld; refine pq 9 87 ?_; refine pq 10 88 ?_; refine pq 11 89 ?_; refine dq ?_; clear hHeld; go_wp2
  go_loopw [15] (fun x15 w' => ∃ (i : Nat) (v' : Value), i ≤ n ∧ x15 = .int .i64 (i : Int) ∧ Aside0 (StAt w0 w' g A c l (NN l) (p3 : Int) v' (copyL out far i) most) ∧ Aside0 (Moved w w' g (.slice Ao out.length co) v')) (fun x15 _ => n + 1 - (intOf x15).toNat)
  case atStart => exact ⟨0, _, by omega, rfl, AT, MV⟩
  case round =>
    clear AT MV; obtain ⟨i, v1, hi, rfl, AT, MV⟩ := hrel; have hlen := copyL_len out far i; obtain ⟨ys, hys⟩ : ∃ ys, ys = copyL out far i := ⟨_, rfl⟩; rw [← hys] at AT hlen; obtain ⟨A1, c1, rfl⟩ := Kd.R_slice AT.out.row
    by_cases hlt : i < n
    rotate_left
    · obtain rfl : i = n := by omega
      have q0 := eq_false (show ¬ (i : Int) < (i : Int) by omega); have HYS := Ak hys; clear hys hlen hi hlt; go_wp2; go_ret; rw [HRR.out]; exact ⟨rfl, HP.out, _, by rw [← HYS.out]; exact AT.out, MV.out⟩
    have hf1 := HFO.out; have hf2 := HFB.out; have hx1 := HXB.out; have hr1 := HRn.out; have hm1' := HM1.out; obtain ⟨j, hj⟩ : ∃ j, j = ys.length - far := ⟨_, rfl⟩; obtain ⟨ad, ead, hcell⟩ := Kd.at_int (Kd.R_reads' AT.out.row).2.2 ((j : Nat) : Int) (by omega) (by omega); subst ead; rw [Int.toNat_natCast, rd_nat] at hcell; obtain ⟨b, hb0⟩ : ∃ b, b = ys.getD j 0 := ⟨_, rfl⟩; rw [← hb0] at hcell; have HC := Ak hcell
    have hwj : wrap64 ((ys.length : Int) - (far : Int)) = (j : Int) := by rw [wrap64_id (by omega) (by omega)]; omega
    have pj := eq_true (show 0 ≤ (j : Int) by omega); have qj := eq_true (show (j : Int) < (ys.length : Int) by omega); have q0 := eq_true (show (i : Int) < (n : Int) by omega); have q0b := eq_true hlt
    have hstep : copyL out far (i + 1) = ys ++ [b] := by
      show copyL out far i ++ [(copyL out far i).getD ((copyL out far i).length - far) 0] = _
      rw [← hys, hb0, hj]
    have HST := Ak hstep; have HLEN := Ak (show ys.length ≤ 70000 by omega); have HI := Ak (show i < n ∧ n ≤ 258 by omega); clear hf1 hf2 hx1 hr1 hm1' hj hcell hb0 hlt hi hlen hstep hys
    go_upto_region 27 with (fail)
    replace AT := Ak (AT.out.on (below_drew (Below.refl _ _))); replace MV := Ak (MV.out.trans (Moved.of_below g _ (below_drew (Below.refl _ _)))); have BG := Ak AT.out.blk; replace HC := Ak (show wr.drew.cell? (ad.add j) = some (.int .u8 b) from HC.out); refine sq 23 (S := fun w' => w'.cell? ⟨g, 3, none⟩ = some (.slice (some ad) ys.length c1) ∧ w'.cell? (ad.add j) = some (.int .u8 b)) (ds := [19, 22]) ⟨(blk_cell BG.out 3).trans rfl, HC.out⟩ fun hHeld => ?_; generalize wr.drew = we at AT MV BG HC hHeld ⊢; refine pq 0 95 ?_; refine pq 1 96 ?_; refine pq 2 97 ?_; refine pq 3 98 ?_; refine pq 5 100 ?_; refine pq 6 101 ?_; refine pq 7 102 ?_; refine pq 9 104 ?_; refine pq 10 105 ?_; refine pq 11 106 ?_; refine pq 14 109 ?_; refine tq 4 99 ?_ hHeld; refine tq 8 103 ?_ hHeld; refine tq 12 107 ?_ hHeld; refine pq 13 108 ?_; refine pq 15 110 ?_; refine pq 16 111 ?_; refine tq 17 112 ?_ hHeld; refine oq 18 113 fun K hK => ?_; refine Kd.R_lit_step (Kd.int .u8) _ 5 ?hg (N := 113) ?hd (xs := ([b] : List Int)) (inner := [.int .u8 b]) (ok := fun _ => True) (okp := fun _ => True) ?hr ?hp (fun _ hk => hk) trivial (Below.refl _ _) (Nat.le_refl _) (by simp) ?_; (case hd => rfl); (case hg => rfl); (case hr => (go_simp; done)); (case hp => exact (Reps.snoc (Reps.none _ _) rfl rfl)); intro v2 w2 ho1 hb hg_ hnew_; obtain ⟨A2, c2, eo1⟩ := Kd.R_slice ho1; subst eo1; replace HL1 := Ak ((Kd.R_reads' ho1).2.2); replace AT := Ak (AT.out.on hb); replace MV := Ak (MV.out.trans (Moved.of_below g _ hb)); replace BG := Ak (blk_below BG.out hb); replace HC := Ak (pw_cell_below hb HC.out); clear hb hg_ hnew_ ho1; refine hK.out _ _ ⟨(blk_cell BG.out 3).trans rfl, HC.out⟩ (fun hHeld => ?_); clear hK K; refine nq 113 ?_; refine last_ (i := 19) (N := some 114) #[true, true, true, true, true, true, true, true, true, true, true, true, true, true, true, true, true, true, true, true, false, false, false] rfl rfl (by kernel_rfl) (by decide) (fun K hK => ?_); refine Kd.R_append_rows_step (Kd.int .u8) (w0 := w0) w0.heap.size (by rfl) (.tmp 99) (.tmp 113) 22 5 (.int .u8 0) 1 rfl Tryz.underlying22 Hu.info5 rfl (by decide) (by omega) (.slice (some ad) ys.length c1) ys [b] _ _ _ (fun _ => True) (fun _ => False) rfl rfl AT.out.row HL1.out (fun _ _ h => h) (fun _ h => h.elim) (fun _ _ => trivial) AT.out.below AT.out.below.size ?aL ?_
    (case aL => have h1_ := HLEN.out; simp only [List.length_cons, List.length_nil]; omega)
    intro v3 w6 ho hb hg hat; obtain ⟨zs, hzs⟩ : ∃ zs, zs = ys ++ [b] := ⟨_, rfl⟩; rw [← hzs] at ho; have HZS := Ak hzs; clear hzs; obtain ⟨A3, c3, ev⟩ := Kd.R_slice ho; subst ev; have hap := AT.out.appended ho hb hg hat; have hbg := blk_grown BG.out hg (Kd.R_ne AT.out.row AT.out.blk (by decide)); replace BG := Ak (hbg); replace AP := Ak (hap); clear hbg hap ho hb hg hat; refine hK.out _ _ ?_; clear hK K; refine nq 114 ?_; refine pq 20 115 ?_; refine pq 21 116 ?_; refine lq 22 fun K hK => ?_; have hz := ((blk_cell BG.out 3).trans rfl : w6.cell? ⟨g, 3, none⟩ = some (.slice (some ad) ys.length c1)); have hf := blk_frozen BG.out 3; refine skip_ (w1 := ?_) (by rfl) rfl ?_ ?_; rotate_left
    · go_simp
      rfl
    refine hK.out _ _ ?_; clear hK K; refine dq ?_; clear hz hf hHeld BG; generalize w6.setCell ⟨g, 3, none⟩ (.slice A3 zs.length c3) = w7 at AP ⊢; go_wp2
    go_roundw
    case rel => exact ⟨i + 1, _, by have := HI.out; omega, val_next _ (by have := HI.out; omega), ⟨by rw [HST.out, ← HZS.out]; exact AP.out.1⟩, ⟨MV.out.trans AP.out.2⟩⟩
    case measure => rw [nat_next _ (by have := HI.out; omega)]; simp only [intOf, Int.toNat_natCast]; have := HI.out; omega
end
end Go.Proofs.YtgflkkjhckcipaaGreatDoor.Pr

