-- Texts by hand and by programs of this session, joined (wip/tool/merge.py).
import Derived.Test.YtgflkkjhckcipaaGreatDoorMID8
import Derived.Shelf.Abstract
import Derived.Shelf.RegionOpen
import Derived.OwnWalkIn
import Derived.TacticsInMore
import Derived.LoopNIn
import Derived.LoopIn
import Derived.Test.YtgflkkjhckcipaaGreatDoorMID4
-- YtgflkkjhckcipaaGreatDoorSo5
set_option maxHeartbeats 16000000
set_option maxRecDepth 1000000
namespace Go.Proofs.YtgflkkjhckcipaaGreatDoor.Hu
open Go.RowKit Go.Shelf Go.Proofs.YtgflkkjhckcipaaGreatDoorW.PrintWords Go.Proofs.YtgflkkjhckcipaaGreatDoorW.PrintLast Go.Proofs.YtgflkkjhckcipaaGreatDoorW.PrintMore
set_option linter.unusedVariables false
set_option linter.unusedSimpArgs false
section
attribute [local go_sem] Oper.semAt_some
theorem sym_main2 (κ : Int → Int) (Dm : Int → Prop) (g3 go base len cap a m b mid p s0 r0 n0 ll lr sab : Nat) (ok : Nat → Prop) (P L R S d : List Int) (W0 : World) (hR : Kd.R (Kd.int .i64) 3 W0 base ok (.slice (some ⟨go, 0, none⟩) len cap) d)
    (bsab : sab ≤ 4503599627370496) (hsab : a + b = sab) (hmid : sab / 2 = mid) (bmid : mid ≤ 4503599627370496) (hn0 : mid + m = n0) (bn0 : n0 ≤ 4503599627370496) (hp : 1 + p = n0) (hll : a + ll = m) (hlr : m + lr = b) (bm : m ≤ 4503599627370496) (bb : b ≤ 4503599627370496) (hl1 : ll ≠ 1) (hr1 : lr ≠ 1)
    (hc : m ≤ mid ∧ s0 = a ∧ r0 = m) (HN : Aside0 (a = P.length ∧ a < m ∧ m < b ∧ mid < b ∧ a < mid ∧ b ≤ len ∧ len ≤ 1048576 ∧ mid + m = n0 ∧ 1 + p = n0 ∧ n0 ≤ 4503599627370496 ∧ r0 ≤ m ∧ p ≤ 4503599627370496))
    (ST : Aside0 (Bs3 κ 0 d p s0 r0 s0 r0))
    (HB : Aside0 (∀ i j c : Nat, Bs3 κ 0 d p s0 r0 i j → i < j → c = (i + j) / 2 → i ≤ c ∧ c < j ∧ c ≤ p ∧ m ≤ p - c ∧ p - c < b ∧ a ≤ c ∧ c < b))
    (DD : Aside0 (∀ k, a ≤ k → k < b → Dm (d.getD k 0)))
    (TAIL : Aside0 (∀ st en : Nat, en = mid + m - st → Bs3 κ 0 d p s0 r0 st st → ∃ L1 L2 R1 R2 : List Int, (a ≤ st ∧ st ≤ m ∧ m ≤ en ∧ en ≤ b ∧ st + en = mid + m) ∧ d = P ++ L1 ++ L2 ++ R1 ++ (R2 ++ S) ∧ (L1.length = st - a ∧ L2.length = m - st ∧ R1.length = en - m ∧ R2.length = b - en) ∧ (Srt κ L1 ∧ Srt κ L2 ∧ Srt κ R1 ∧ Srt κ R2) ∧ ((∀ x ∈ L1, Dm x) ∧ (∀ x ∈ L2, Dm x) ∧ (∀ x ∈ R1, Dm x) ∧ (∀ x ∈ R2, Dm x)) ∧
      (∀ Z1 Z2, Srt κ Z1 → Stb κ (L1 ++ R1) Z1 → Srt κ Z2 → Stb κ (L2 ++ R2) Z2 → Srt κ (Z1 ++ Z2) ∧ Stb κ (L ++ R) (Z1 ++ Z2))))
    (HC : Aside0 (CmpOk κ Dm g3 go W0)) (HIH : Aside0 (∀ a' m' b' : Nat, b' - a' < b - a → SymOk κ Dm g3 go base len cap ok a' m' b')) :
    Calls Tryz.prog 95 #[.slice (some ⟨go, 0, none⟩) len cap, .int .i64 (a : Int), .int .i64 (m : Int), .int .i64 (b : Int), .func (.func 90) #[] #[.pointer (some ⟨g3, 0, none⟩)]] W0 fun e W' => e = .returned (.tuple #[]) ∧ (∃ Z, Srt κ Z ∧ Stb κ (L ++ R) Z ∧ Kd.R (Kd.int .i64) 3 W' base ok (.slice (some ⟨go, 0, none⟩) len cap) (P ++ Z ++ S)) ∧ W0.grownBy W' (some go) := by
  have HO := Ak hR; have HG := Ak (World.grownBy.refl W0 (some go)); clear hR; have wl1 : ((ll : Int) == 1) = false := beq_eq_false_iff_ne.mpr (by omega); have wl2 := eq_false (show ¬ (ll : Int) = 1 by omega); have wl3 := eq_false (show ¬ ll = 1 by omega); have wr1 : ((lr : Int) == 1) = false := beq_eq_false_iff_ne.mpr (by omega); have wr2 := eq_false (show ¬ (lr : Int) = 1 by omega); have wr3 := eq_false (show ¬ lr = 1 by omega); obtain ⟨c1, c2, c3⟩ := hc; have q1 := eq_false (show ¬ (mid : Int) < (m : Int) by omega); have q2 := eq_false (show ¬ mid < m by omega); have c2s := c2.symm; have c3s := c3.symm; subst c2s c3s; have HMM := Ak c1; have wm : wrap64 ((m : Int) - (a : Int)) = (ll : Int) := wsub hll bm; have wmq : IntKind.i64.wrap ((m : Int) - (a : Int)) = (ll : Int) := (i64_w _).trans wm; have wb : wrap64 ((b : Int) - (m : Int)) = (lr : Int) := wsub hlr bb; have wbq : IntKind.i64.wrap ((b : Int) - (m : Int)) = (lr : Int) := (i64_w _).trans wb; have wh1 : wrap64 ((a : Int) + (b : Int)) = (sab : Int) := wadd hsab bsab; have wh2 : IntKind.i64.wrap ((a : Int) + (b : Int)) = (sab : Int) := (i64_w _).trans wh1; have wh3 : IntKind.u64.wrap (sab : Int) = (sab : Int) := u64_small bsab; have wh4 : IntKind.i64.wrap (mid : Int) = (mid : Int) := i64_small bmid; have wh5 : (sab : Int) / 2 = (mid : Int) := half_z hmid; have wn1 : wrap64 ((mid : Int) + (m : Int)) = (n0 : Int) := wadd hn0 bn0; have wn2 : IntKind.i64.wrap ((mid : Int) + (m : Int)) = (n0 : Int) := (i64_w _).trans wn1; have wp1 : wrap64 ((n0 : Int) - 1) = (p : Int) := wsub (x := n0) (y := 1) hp bn0; have wp2 : IntKind.i64.wrap ((n0 : Int) - 1) = (p : Int) := (i64_w _).trans wp1; clear hll hlr hsab hmid hn0 hp bsab bmid bn0 bm bb hl1 hr1 c1; go_enter Tryz.func95, Tryz.ntmps95; go_wp2
  go_loopw [20, 21] (fun v10 v11 w' => ∃ (i j : Nat), v10 = .int .i64 (i : Int) ∧ v11 = .int .i64 (j : Int) ∧ Aside0 (Kd.R (Kd.int .i64) 3 w' base ok (.slice (some ⟨go, 0, none⟩) len cap) d) ∧ Aside0 (W0.grownBy w' (some go)) ∧ Aside0 (Bs3 κ 0 d p a m i j))
    (fun v10 v11 _ => (intOf v11).toNat - (intOf v10).toNat)
  case atStart => exact ⟨a, m, rfl, rfl, HO, HG, ST⟩
  case round =>
    clear HO HG ST wl1 wl2 wl3 wr1 wr2 wr3 wm wmq wb wbq wh1 wh2 wh3 wh4 wh5 wn1 wn2 wp1 wp2 q1 q2; obtain ⟨i, j, rfl, rfl, HO, HG, ST⟩ := hrel; have hn := HN.out; have hij0 := ST.out.2.1
    by_cases hij : i < j
    · have q0 := eq_true (show (i : Int) < (j : Int) by omega); have q00 := eq_true hij; have hjb := ST.out.2.2.1; obtain ⟨sj, hsj⟩ : ∃ sj, i + j = sj := ⟨_, rfl⟩
      have bsj : sj ≤ 4503599627370496 := by omega
      obtain ⟨hh, hhh⟩ : ∃ hh, sj / 2 = hh := ⟨_, rfl⟩
      have bhh : hh ≤ 4503599627370496 := by omega
      obtain ⟨h1, h2, k1, k2, k3, k4, k5⟩ := HB.out i j hh ST.out hij (by rw [hsj, hhh]); obtain ⟨pc, hpc⟩ : ∃ pc, hh + pc = p := ⟨p - hh, by omega⟩
      have hpc2 : p - hh = pc := by omega
      rw [hpc2] at k2 k3; obtain ⟨lenle, len52, bp⟩ : b ≤ len ∧ len ≤ 1048576 ∧ p ≤ 4503599627370496 := ⟨hn.2.2.2.2.2.1, hn.2.2.2.2.2.2.1, hn.2.2.2.2.2.2.2.2.2.2.2⟩; obtain ⟨h3, hh3⟩ : ∃ h3, hh + 1 = h3 := ⟨_, rfl⟩
      have bh3 : h3 ≤ 4503599627370496 := by omega
      have phh := eq_true (show (0 : Int) ≤ (hh : Int) by omega); have phh1 := eq_true (show (hh : Int) < (len : Int) by omega); have phh2 := eq_true (show hh < len by omega); have Lhh := Ak (show hh < len by omega); have ppc := eq_true (show (0 : Int) ≤ (pc : Int) by omega); have ppc1 := eq_true (show (pc : Int) < (len : Int) by omega); have ppc2 := eq_true (show pc < len by omega); have Lpc := Ak (show pc < len by omega); obtain ⟨y, hy⟩ : ∃ y, d.getD hh 0 = y := ⟨_, rfl⟩; obtain ⟨x, hx⟩ : ∃ x, d.getD pc 0 = x := ⟨_, rfl⟩; have DY := Ak (show Dm y from hy ▸ DD.out hh k4 k5); have DX := Ak (show Dm x from hx ▸ DD.out pc (by omega) k3); have Rhh := Ak (show rd d (hh : Int) = y from hy); have Rpc := Ak (show rd d (pc : Int) = x from hx); have SLO := Ak (fun h : ¬ κ x < κ y => (show Bs3 κ 0 d p a m h3 j from hh3 ▸ ST.out.lo h1 h2 (by rw [hpc2, hy, hx]; exact h))); have SHI := Ak (fun h : κ x < κ y => ST.out.hi h1 h2 (by rw [hpc2, hy, hx]; exact h)); have MS := Ak (show j - h3 < j - i ∧ hh - i < j - i by omega); have wpc : wrap64 ((p : Int) - (hh : Int)) = (pc : Int) := wsub hpc bp; have wpcq : IntKind.i64.wrap ((p : Int) - (hh : Int)) = (pc : Int) := (i64_w _).trans wpc; have wh1 : wrap64 ((i : Int) + (j : Int)) = (sj : Int) := wadd hsj bsj; have wh2 : IntKind.i64.wrap ((i : Int) + (j : Int)) = (sj : Int) := (i64_w _).trans wh1; have wh3 : IntKind.u64.wrap (sj : Int) = (sj : Int) := u64_small bsj; have wh4 : IntKind.i64.wrap (hh : Int) = (hh : Int) := i64_small bhh; have wh5 : (sj : Int) / 2 = (hh : Int) := half_z hhh; have wh3 : wrap64 ((hh : Int) + 1) = (h3 : Int) := wadd (x := hh) (y := 1) hh3 bh3; have wh3q : IntKind.i64.wrap ((hh : Int) + 1) = (h3 : Int) := (i64_w _).trans wh3; clear hn hij0 hjb hsj hhh bsj bhh hh3 bh3 h1 h2 k1 k2 k3 k4 k5 hpc hpc2 lenle len52 bp hy hx hij; go_wp2; replace HO := Ak (Kd.R_drew HO.out); replace HG := Ak (grown_drew HG.out); have HXA := Ak (show wr.drew.cell? ⟨go, pc, none⟩ = some (.int .i64 x) from by have h := (row_at HO.out pc Lpc.out).1; rwa [Rpc.out] at h); have HXB := Ak (show wr.drew.cell? ⟨go, hh, none⟩ = some (.int .i64 y) from by have h := (row_at HO.out hh Lhh.out).1; rwa [Rhh.out] at h); refine sq 14 (S := fun w' => w'.cell? ⟨go, pc, none⟩ = some (.int .i64 x) ∧ w'.cell? ⟨go, hh, none⟩ = some (.int .i64 y)) (ds := []) ⟨HXA.out, HXB.out⟩ fun hHeld => ?_; generalize wr.drew = wd at HO HG HXA HXB hHeld ⊢; refine pq 0 158 ?_; refine pq 1 159 ?_; refine pq 2 160 ?_; refine pq 3 161 ?_; refine pq 4 162 ?_; refine pq 5 163 ?_; refine pq 7 165 ?_; refine pq 8 166 ?_; refine pq 9 167 ?_; refine tq 6 164 ?_ hHeld; refine tq 10 168 ?_ hHeld; refine oq 11 169 fun K hK => ?_; refine goesC_ Tryz.func90 (by kernel_rfl) rfl (x := (.tmp 158)) (lb := #[.pointer (some ⟨g3, 0, none⟩)]) #[.int .i64 x, .int .i64 y] (by rfl) rfl rfl rfl (by simp only [List.map_toArray, List.map_cons, List.map_nil]; rfl) (all := #[.int .i64 x, .int .i64 y, .pointer (some ⟨g3, 0, none⟩)]) rfl ?_
      with_reducible refine (HC.out.call HG.out DX.out DY.out).mono ?_
      rintro e w5 ⟨zz, rfl, hz, hd⟩; refine ⟨_, rfl, ?_⟩; obtain ⟨nd, rfl⟩ := hd.out; have HZ := Ak hz; clear hd hz; refine hK.out _ _ ⟨HXA.out, HXB.out⟩ (fun hHeld => ?_); clear hK K; refine nq 169 ?_; refine pq 12 170 ?_; refine pq 13 171 ?_; refine dq ?_; have HO5 := Ak (Kd.R_drewN HO.out nd); have HG5 := Ak (grown_drawn HG.out ⟨⟨nd, rfl⟩⟩); clear HO HG HXA HXB hHeld; generalize wd.drewN nd = we at HO5 HG5 ⊢
      by_cases hzz : zz < 0
      · have z2 : decide (zz < 0) = true := decide_eq_true hzz; have ST2 := Ak (SHI.out (HZ.out.1 hzz)); rw [z2]; clear hzz HZ SLO SHI; go_wp2
        go_roundw
        case rel => exact ⟨i, hh, rfl, rfl, HO5, HG5, ST2⟩
        case measure => have h1 := MS.out; simp [intOf]; omega
      have z2 : decide (zz < 0) = false := decide_eq_false hzz; have ST2 : Aside0 (Bs3 κ 0 d p a m h3 j) := ⟨by exact SLO.out (Int.not_lt.1 (fun h => hzz (HZ.out.2 h)))⟩; rw [z2]; clear hzz HZ SLO SHI; go_wp2
      go_roundw
      case rel => exact ⟨h3, j, rfl, rfl, HO5, HG5, ST2⟩
      case measure => have h1 := MS.out; simp [intOf]; omega
    have q0 := eq_false (show ¬ (i : Int) < (j : Int) by omega); have q00 := eq_false hij
    obtain rfl : i = j := by omega
    have hjb := ST.out.2.2.1; obtain ⟨na, nam, nmb, nmidb, namid, nbl, nlen, nn0, np, bn0, nr0, _⟩ := hn; obtain ⟨en, hen⟩ : ∃ en, i + en = n0 := ⟨n0 - i, by omega⟩; obtain ⟨L1, L2, R1, R2, ⟨b1, b2, b3, b4, b5⟩, hd, ⟨n1, n2, n3, n4⟩, ⟨s1, s2, s3, s4⟩, ⟨d1, d2, d3, d4⟩, hz⟩ := TAIL.out i en (by omega) ST.out; rw [hd] at HO; have HMM2 := HMM.out; have S1 := Ak s1; have S2 := Ak s2; have S3 := Ak s3; have S4 := Ak s4; have D1 := Ak d1; have D2 := Ak d2; have D3 := Ak d3; have D4 := Ak d4; have HZ := Ak hz; clear s1 s2 s3 s4 d1 d2 d3 d4 hz hd hij hij0 ST TAIL HB DD HMM; have HLEN := Ak nlen; have EA := Ak na; have EL1 := Ak (show i = a + L1.length by omega); have ER0 := Ak (show i = (P ++ L1).length by rw [List.length_append]; omega); have EL2 := Ak (show m = i + L2.length by omega); have ER1 := Ak (show en = m + R1.length by omega); have EM := Ak (show mid = i + R1.length by omega); have EE := Ak (show en = mid + L2.length by omega); have EB := Ak (show b = en + R2.length by omega); have IH1 := HIH.out a i mid (by omega); have HI1 := Ak IH1; have IH2 := HIH.out mid en b (by omega); have HI2 := Ak IH2; clear IH1 IH2 HIH
    by_cases hA : i < m
    · by_cases hB : m < en
      rotate_left
      · exfalso; omega
      by_cases hC : a < i
      · by_cases hD : en < b
        · have qA := eq_true (show (i : Int) < (m : Int) by omega); have qAn := eq_true (show i < m by omega); have qA2 := eq_true (show (mid : Int) < (en : Int) by omega); have qA2n := eq_true (show mid < en by omega); have qB := eq_true (show (m : Int) < (en : Int) by omega); have qBn := eq_true (show m < en by omega); have qB2 := eq_true (show (i : Int) < (mid : Int) by omega); have qB2n := eq_true (show i < mid by omega); have qC := eq_true (show (a : Int) < (i : Int) by omega); have qCn := eq_true (show a < i by omega); have qD := eq_true (show (en : Int) < (b : Int) by omega); have qDn := eq_true (show en < b by omega); have X1 := Ak (show 1 ≤ L1.length by omega); have X2 := Ak (show 1 ≤ L2.length by omega); have X3 := Ak (show 1 ≤ R1.length by omega); have X4 := Ak (show 1 ≤ R2.length by omega); have wen : wrap64 ((n0 : Int) - (i : Int)) = (en : Int) := wsub hen bn0; have wenq : IntKind.i64.wrap ((n0 : Int) - (i : Int)) = (en : Int) := (i64_w _).trans wen; clear na nam nmb nmidb namid nbl nlen nn0 np bn0 nr0 hen b1 b2 b3 b4 b5 n1 n2 n3 n4 hjb HMM2 hA hB hC hD
          go_wp2_with (first | (go_at_call 96; with_reducible refine (rotate_calls go base len cap i m en ok (.func (.func 90) #[] #[.pointer (some ⟨g3, 0, none⟩)]) (P ++ L1) L2 R1 (R2 ++ S) _ HO.out ER0.out EL2.out ER1.out X2.out X3.out HLEN.out).mono ?_; rintro e_ w5 ⟨rfl, ho, hg⟩; have HO1 := Ak (show Kd.R (Kd.int .i64) 3 w5 base ok (.slice (some ⟨go, 0, none⟩) len cap) (P ++ L1 ++ R1 ++ (L2 ++ (R2 ++ S))) from by have h := ho; simp only [List.append_assoc] at h ⊢; exact h); have HG1 := Ak (grown_trans HG.out hg); have HCB := Ak (HC.out.later HG1.out); clear ho hg) | (go_at_call 95; with_reducible refine (HI1.out.call P L1 R1 (L2 ++ (R2 ++ S)) _ HO1.out EA.out EL1.out EM.out X1.out X3.out S1.out S3.out HLEN.out D1.out D3.out HCB.out).mono ?_; rintro e_ w6 ⟨rfl, ⟨Z1, y1, y2, ho⟩, hg⟩; have HO2 := Ak ho; have HG2 := Ak (grown_trans HG1.out hg); have Y1 := Ak y1; have Y2 := Ak y2; have HO2b := Ak (show Kd.R (Kd.int .i64) 3 w6 base ok (.slice (some ⟨go, 0, none⟩) len cap) (P ++ Z1 ++ L2 ++ R2 ++ S) from by have h := HO2.out; simp only [List.append_assoc] at h ⊢; exact h); have EZ := Ak (show mid = (P ++ Z1).length from by have h := Y2.out.len; have h2 := EM.out; have h3 := EL1.out; have h4 := EA.out; simp only [List.length_append] at h ⊢; omega); have HCC := Ak (HC.out.later HG2.out); clear ho hg y1 y2) | (go_at_call 95; with_reducible refine (HI2.out.call (P ++ Z1) L2 R2 S _ HO2b.out EZ.out EE.out EB.out X2.out X4.out S2.out S4.out HLEN.out D2.out D4.out HCC.out).mono ?_; rintro e_ w7 ⟨rfl, ⟨Z2, y3, y4, ho⟩, hg⟩; have HO3 := Ak ho; have HG3 := Ak (grown_trans HG2.out hg); have Y3 := Ak y3; have Y4 := Ak y4; clear ho hg y3 y4))
          go_end0
          have hzz := HZ.out Z1 Z2 Y1.out Y2.out Y3.out Y4.out; exact ⟨rfl, ⟨Z1 ++ Z2, hzz.1, hzz.2, (by have h := HO3.out; simp only [List.append_assoc] at h ⊢; exact h)⟩, HG3.out⟩
        have qA := eq_true (show (i : Int) < (m : Int) by omega); have qAn := eq_true (show i < m by omega); have qA2 := eq_true (show (mid : Int) < (en : Int) by omega); have qA2n := eq_true (show mid < en by omega); have qB := eq_true (show (m : Int) < (en : Int) by omega); have qBn := eq_true (show m < en by omega); have qB2 := eq_true (show (i : Int) < (mid : Int) by omega); have qB2n := eq_true (show i < mid by omega); have qC := eq_true (show (a : Int) < (i : Int) by omega); have qCn := eq_true (show a < i by omega); have qD := eq_false (show ¬ (en : Int) < (b : Int) by omega); have qDn := eq_false (show ¬ en < b by omega); have X1 := Ak (show 1 ≤ L1.length by omega); have X2 := Ak (show 1 ≤ L2.length by omega); have X3 := Ak (show 1 ≤ R1.length by omega); have ZS2 := Ak (srt_or S2.out S4.out (by omega)); have wen : wrap64 ((n0 : Int) - (i : Int)) = (en : Int) := wsub hen bn0; have wenq : IntKind.i64.wrap ((n0 : Int) - (i : Int)) = (en : Int) := (i64_w _).trans wen; clear na nam nmb nmidb namid nbl nlen nn0 np bn0 nr0 hen b1 b2 b3 b4 b5 n1 n2 n3 n4 hjb HMM2 hA hB hC hD
        go_wp2_with (first | (go_at_call 96; with_reducible refine (rotate_calls go base len cap i m en ok (.func (.func 90) #[] #[.pointer (some ⟨g3, 0, none⟩)]) (P ++ L1) L2 R1 (R2 ++ S) _ HO.out ER0.out EL2.out ER1.out X2.out X3.out HLEN.out).mono ?_; rintro e_ w5 ⟨rfl, ho, hg⟩; have HO1 := Ak (show Kd.R (Kd.int .i64) 3 w5 base ok (.slice (some ⟨go, 0, none⟩) len cap) (P ++ L1 ++ R1 ++ (L2 ++ (R2 ++ S))) from by have h := ho; simp only [List.append_assoc] at h ⊢; exact h); have HG1 := Ak (grown_trans HG.out hg); have HCB := Ak (HC.out.later HG1.out); clear ho hg) | (go_at_call 95; with_reducible refine (HI1.out.call P L1 R1 (L2 ++ (R2 ++ S)) _ HO1.out EA.out EL1.out EM.out X1.out X3.out S1.out S3.out HLEN.out D1.out D3.out HCB.out).mono ?_; rintro e_ w6 ⟨rfl, ⟨Z1, y1, y2, ho⟩, hg⟩; have HO2 := Ak ho; have HG2 := Ak (grown_trans HG1.out hg); have Y1 := Ak y1; have Y2 := Ak y2; skip; clear ho hg y1 y2))
        go_end0
        have hzz := HZ.out Z1 (L2 ++ R2) Y1.out Y2.out ZS2.out (Stb.refl _); exact ⟨rfl, ⟨Z1 ++ (L2 ++ R2), hzz.1, hzz.2, (by have h := HO2.out; simp only [List.append_assoc] at h ⊢; exact h)⟩, HG2.out⟩
      by_cases hD : en < b
      · have qA := eq_true (show (i : Int) < (m : Int) by omega); have qAn := eq_true (show i < m by omega); have qA2 := eq_true (show (mid : Int) < (en : Int) by omega); have qA2n := eq_true (show mid < en by omega); have qB := eq_true (show (m : Int) < (en : Int) by omega); have qBn := eq_true (show m < en by omega); have qB2 := eq_true (show (i : Int) < (mid : Int) by omega); have qB2n := eq_true (show i < mid by omega); have qC := eq_false (show ¬ (a : Int) < (i : Int) by omega); have qCn := eq_false (show ¬ a < i by omega); have qD := eq_true (show (en : Int) < (b : Int) by omega); have qDn := eq_true (show en < b by omega); have X2 := Ak (show 1 ≤ L2.length by omega); have X3 := Ak (show 1 ≤ R1.length by omega); have X4 := Ak (show 1 ≤ R2.length by omega); have ZS1 := Ak (srt_or S1.out S3.out (by omega)); have wen : wrap64 ((n0 : Int) - (i : Int)) = (en : Int) := wsub hen bn0; have wenq : IntKind.i64.wrap ((n0 : Int) - (i : Int)) = (en : Int) := (i64_w _).trans wen; clear na nam nmb nmidb namid nbl nlen nn0 np bn0 nr0 hen b1 b2 b3 b4 b5 n1 n2 n3 n4 hjb HMM2 hA hB hC hD
        go_wp2_with (first | (go_at_call 96; with_reducible refine (rotate_calls go base len cap i m en ok (.func (.func 90) #[] #[.pointer (some ⟨g3, 0, none⟩)]) (P ++ L1) L2 R1 (R2 ++ S) _ HO.out ER0.out EL2.out ER1.out X2.out X3.out HLEN.out).mono ?_; rintro e_ w5 ⟨rfl, ho, hg⟩; have HO1 := Ak (show Kd.R (Kd.int .i64) 3 w5 base ok (.slice (some ⟨go, 0, none⟩) len cap) (P ++ L1 ++ R1 ++ (L2 ++ (R2 ++ S))) from by have h := ho; simp only [List.append_assoc] at h ⊢; exact h); have HG1 := Ak (grown_trans HG.out hg); have HO2b := Ak (show Kd.R (Kd.int .i64) 3 w5 base ok (.slice (some ⟨go, 0, none⟩) len cap) (P ++ (L1 ++ R1) ++ L2 ++ R2 ++ S) from by have h := HO1.out; simp only [List.append_assoc] at h ⊢; exact h); have EZ := Ak (show mid = (P ++ (L1 ++ R1)).length from by have h2 := EM.out; have h3 := EL1.out; have h4 := EA.out; simp only [List.length_append]; omega); have HCC := Ak (HC.out.later HG1.out); clear ho hg) | (go_at_call 95; with_reducible refine (HI2.out.call (P ++ (L1 ++ R1)) L2 R2 S _ HO2b.out EZ.out EE.out EB.out X2.out X4.out S2.out S4.out HLEN.out D2.out D4.out HCC.out).mono ?_; rintro e_ w7 ⟨rfl, ⟨Z2, y3, y4, ho⟩, hg⟩; have HO3 := Ak ho; have HG3 := Ak (grown_trans HG1.out hg); have Y3 := Ak y3; have Y4 := Ak y4; clear ho hg y3 y4))
        go_end0
        have hzz := HZ.out (L1 ++ R1) Z2 ZS1.out (Stb.refl _) Y3.out Y4.out; exact ⟨rfl, ⟨(L1 ++ R1) ++ Z2, hzz.1, hzz.2, (by have h := HO3.out; simp only [List.append_assoc] at h ⊢; exact h)⟩, HG3.out⟩
      have qA := eq_true (show (i : Int) < (m : Int) by omega); have qAn := eq_true (show i < m by omega); have qA2 := eq_true (show (mid : Int) < (en : Int) by omega); have qA2n := eq_true (show mid < en by omega); have qB := eq_true (show (m : Int) < (en : Int) by omega); have qBn := eq_true (show m < en by omega); have qB2 := eq_true (show (i : Int) < (mid : Int) by omega); have qB2n := eq_true (show i < mid by omega); have qC := eq_false (show ¬ (a : Int) < (i : Int) by omega); have qCn := eq_false (show ¬ a < i by omega); have qD := eq_false (show ¬ (en : Int) < (b : Int) by omega); have qDn := eq_false (show ¬ en < b by omega); have X2 := Ak (show 1 ≤ L2.length by omega); have X3 := Ak (show 1 ≤ R1.length by omega); have ZS1 := Ak (srt_or S1.out S3.out (by omega)); have ZS2 := Ak (srt_or S2.out S4.out (by omega)); have wen : wrap64 ((n0 : Int) - (i : Int)) = (en : Int) := wsub hen bn0; have wenq : IntKind.i64.wrap ((n0 : Int) - (i : Int)) = (en : Int) := (i64_w _).trans wen; clear na nam nmb nmidb namid nbl nlen nn0 np bn0 nr0 hen b1 b2 b3 b4 b5 n1 n2 n3 n4 hjb HMM2 hA hB hC hD
      go_wp2_with ((go_at_call 96; with_reducible refine (rotate_calls go base len cap i m en ok (.func (.func 90) #[] #[.pointer (some ⟨g3, 0, none⟩)]) (P ++ L1) L2 R1 (R2 ++ S) _ HO.out ER0.out EL2.out ER1.out X2.out X3.out HLEN.out).mono ?_; rintro e_ w5 ⟨rfl, ho, hg⟩; have HO1 := Ak (show Kd.R (Kd.int .i64) 3 w5 base ok (.slice (some ⟨go, 0, none⟩) len cap) (P ++ L1 ++ R1 ++ (L2 ++ (R2 ++ S))) from by have h := ho; simp only [List.append_assoc] at h ⊢; exact h); have HG1 := Ak (grown_trans HG.out hg); skip; clear ho hg))
      go_end0
      have hzz := HZ.out (L1 ++ R1) (L2 ++ R2) ZS1.out (Stb.refl _) ZS2.out (Stb.refl _); exact ⟨rfl, ⟨(L1 ++ R1) ++ (L2 ++ R2), hzz.1, hzz.2, (by have h := HO1.out; simp only [List.append_assoc] at h ⊢; exact h)⟩, HG1.out⟩
    by_cases hB : m < en
    · by_cases hC : a < i
      · by_cases hD : en < b
        · have qA := eq_false (show ¬ (i : Int) < (m : Int) by omega); have qAn := eq_false (show ¬ i < m by omega); have qA2 := eq_false (show ¬ (mid : Int) < (en : Int) by omega); have qA2n := eq_false (show ¬ mid < en by omega); have qB := eq_true (show (m : Int) < (en : Int) by omega); have qBn := eq_true (show m < en by omega); have qB2 := eq_true (show (i : Int) < (mid : Int) by omega); have qB2n := eq_true (show i < mid by omega); have qC := eq_true (show (a : Int) < (i : Int) by omega); have qCn := eq_true (show a < i by omega); have qD := eq_true (show (en : Int) < (b : Int) by omega); have qDn := eq_true (show en < b by omega); have X1 := Ak (show 1 ≤ L1.length by omega); have X3 := Ak (show 1 ≤ R1.length by omega); have X4 := Ak (show 1 ≤ R2.length by omega); have ZS2 := Ak (srt_or S2.out S4.out (by omega)); have HO1 := Ak (show Kd.R (Kd.int .i64) 3 wr base ok (.slice (some ⟨go, 0, none⟩) len cap) (P ++ L1 ++ R1 ++ (L2 ++ (R2 ++ S))) from by have h := HO.out; rw [turn_or (show L2.length = 0 ∨ R1.length = 0 by omega)] at h; simp only [List.append_assoc] at h ⊢; exact h); have HCB := Ak (HC.out.later HG.out); have wen : wrap64 ((n0 : Int) - (i : Int)) = (en : Int) := wsub hen bn0; have wenq : IntKind.i64.wrap ((n0 : Int) - (i : Int)) = (en : Int) := (i64_w _).trans wen; clear na nam nmb nmidb namid nbl nlen nn0 np bn0 nr0 hen b1 b2 b3 b4 b5 n1 n2 n3 n4 hjb HMM2 hA hB hC hD
          go_wp2_with ((go_at_call 95; with_reducible refine (HI1.out.call P L1 R1 (L2 ++ (R2 ++ S)) _ HO1.out EA.out EL1.out EM.out X1.out X3.out S1.out S3.out HLEN.out D1.out D3.out HCB.out).mono ?_; rintro e_ w6 ⟨rfl, ⟨Z1, y1, y2, ho⟩, hg⟩; have HO2 := Ak ho; have HG2 := Ak (grown_trans HG.out hg); have Y1 := Ak y1; have Y2 := Ak y2; skip; clear ho hg y1 y2))
          go_end0
          have hzz := HZ.out Z1 (L2 ++ R2) Y1.out Y2.out ZS2.out (Stb.refl _); exact ⟨rfl, ⟨Z1 ++ (L2 ++ R2), hzz.1, hzz.2, (by have h := HO2.out; simp only [List.append_assoc] at h ⊢; exact h)⟩, HG2.out⟩
        have qA := eq_false (show ¬ (i : Int) < (m : Int) by omega); have qAn := eq_false (show ¬ i < m by omega); have qA2 := eq_false (show ¬ (mid : Int) < (en : Int) by omega); have qA2n := eq_false (show ¬ mid < en by omega); have qB := eq_true (show (m : Int) < (en : Int) by omega); have qBn := eq_true (show m < en by omega); have qB2 := eq_true (show (i : Int) < (mid : Int) by omega); have qB2n := eq_true (show i < mid by omega); have qC := eq_true (show (a : Int) < (i : Int) by omega); have qCn := eq_true (show a < i by omega); have qD := eq_false (show ¬ (en : Int) < (b : Int) by omega); have qDn := eq_false (show ¬ en < b by omega); have X1 := Ak (show 1 ≤ L1.length by omega); have X3 := Ak (show 1 ≤ R1.length by omega); have ZS2 := Ak (srt_or S2.out S4.out (by omega)); have HO1 := Ak (show Kd.R (Kd.int .i64) 3 wr base ok (.slice (some ⟨go, 0, none⟩) len cap) (P ++ L1 ++ R1 ++ (L2 ++ (R2 ++ S))) from by have h := HO.out; rw [turn_or (show L2.length = 0 ∨ R1.length = 0 by omega)] at h; simp only [List.append_assoc] at h ⊢; exact h); have HCB := Ak (HC.out.later HG.out); have wen : wrap64 ((n0 : Int) - (i : Int)) = (en : Int) := wsub hen bn0; have wenq : IntKind.i64.wrap ((n0 : Int) - (i : Int)) = (en : Int) := (i64_w _).trans wen; clear na nam nmb nmidb namid nbl nlen nn0 np bn0 nr0 hen b1 b2 b3 b4 b5 n1 n2 n3 n4 hjb HMM2 hA hB hC hD
        go_wp2_with ((go_at_call 95; with_reducible refine (HI1.out.call P L1 R1 (L2 ++ (R2 ++ S)) _ HO1.out EA.out EL1.out EM.out X1.out X3.out S1.out S3.out HLEN.out D1.out D3.out HCB.out).mono ?_; rintro e_ w6 ⟨rfl, ⟨Z1, y1, y2, ho⟩, hg⟩; have HO2 := Ak ho; have HG2 := Ak (grown_trans HG.out hg); have Y1 := Ak y1; have Y2 := Ak y2; skip; clear ho hg y1 y2))
        go_end0
        have hzz := HZ.out Z1 (L2 ++ R2) Y1.out Y2.out ZS2.out (Stb.refl _); exact ⟨rfl, ⟨Z1 ++ (L2 ++ R2), hzz.1, hzz.2, (by have h := HO2.out; simp only [List.append_assoc] at h ⊢; exact h)⟩, HG2.out⟩
      by_cases hD : en < b
      · have qA := eq_false (show ¬ (i : Int) < (m : Int) by omega); have qAn := eq_false (show ¬ i < m by omega); have qA2 := eq_false (show ¬ (mid : Int) < (en : Int) by omega); have qA2n := eq_false (show ¬ mid < en by omega); have qB := eq_true (show (m : Int) < (en : Int) by omega); have qBn := eq_true (show m < en by omega); have qB2 := eq_true (show (i : Int) < (mid : Int) by omega); have qB2n := eq_true (show i < mid by omega); have qC := eq_false (show ¬ (a : Int) < (i : Int) by omega); have qCn := eq_false (show ¬ a < i by omega); have qD := eq_true (show (en : Int) < (b : Int) by omega); have qDn := eq_true (show en < b by omega); have X3 := Ak (show 1 ≤ R1.length by omega); have X4 := Ak (show 1 ≤ R2.length by omega); have ZS1 := Ak (srt_or S1.out S3.out (by omega)); have ZS2 := Ak (srt_or S2.out S4.out (by omega)); have HO1 := Ak (show Kd.R (Kd.int .i64) 3 wr base ok (.slice (some ⟨go, 0, none⟩) len cap) (P ++ L1 ++ R1 ++ (L2 ++ (R2 ++ S))) from by have h := HO.out; rw [turn_or (show L2.length = 0 ∨ R1.length = 0 by omega)] at h; simp only [List.append_assoc] at h ⊢; exact h); have wen : wrap64 ((n0 : Int) - (i : Int)) = (en : Int) := wsub hen bn0; have wenq : IntKind.i64.wrap ((n0 : Int) - (i : Int)) = (en : Int) := (i64_w _).trans wen; clear na nam nmb nmidb namid nbl nlen nn0 np bn0 nr0 hen b1 b2 b3 b4 b5 n1 n2 n3 n4 hjb HMM2 hA hB hC hD; go_wp2
        go_end0
        have hzz := HZ.out (L1 ++ R1) (L2 ++ R2) ZS1.out (Stb.refl _) ZS2.out (Stb.refl _); exact ⟨rfl, ⟨(L1 ++ R1) ++ (L2 ++ R2), hzz.1, hzz.2, (by have h := HO1.out; simp only [List.append_assoc] at h ⊢; exact h)⟩, HG.out⟩
      have qA := eq_false (show ¬ (i : Int) < (m : Int) by omega); have qAn := eq_false (show ¬ i < m by omega); have qA2 := eq_false (show ¬ (mid : Int) < (en : Int) by omega); have qA2n := eq_false (show ¬ mid < en by omega); have qB := eq_true (show (m : Int) < (en : Int) by omega); have qBn := eq_true (show m < en by omega); have qB2 := eq_true (show (i : Int) < (mid : Int) by omega); have qB2n := eq_true (show i < mid by omega); have qC := eq_false (show ¬ (a : Int) < (i : Int) by omega); have qCn := eq_false (show ¬ a < i by omega); have qD := eq_false (show ¬ (en : Int) < (b : Int) by omega); have qDn := eq_false (show ¬ en < b by omega); have X3 := Ak (show 1 ≤ R1.length by omega); have ZS1 := Ak (srt_or S1.out S3.out (by omega)); have ZS2 := Ak (srt_or S2.out S4.out (by omega)); have HO1 := Ak (show Kd.R (Kd.int .i64) 3 wr base ok (.slice (some ⟨go, 0, none⟩) len cap) (P ++ L1 ++ R1 ++ (L2 ++ (R2 ++ S))) from by have h := HO.out; rw [turn_or (show L2.length = 0 ∨ R1.length = 0 by omega)] at h; simp only [List.append_assoc] at h ⊢; exact h); have wen : wrap64 ((n0 : Int) - (i : Int)) = (en : Int) := wsub hen bn0; have wenq : IntKind.i64.wrap ((n0 : Int) - (i : Int)) = (en : Int) := (i64_w _).trans wen; clear na nam nmb nmidb namid nbl nlen nn0 np bn0 nr0 hen b1 b2 b3 b4 b5 n1 n2 n3 n4 hjb HMM2 hA hB hC hD; go_wp2
      go_end0
      have hzz := HZ.out (L1 ++ R1) (L2 ++ R2) ZS1.out (Stb.refl _) ZS2.out (Stb.refl _); exact ⟨rfl, ⟨(L1 ++ R1) ++ (L2 ++ R2), hzz.1, hzz.2, (by have h := HO1.out; simp only [List.append_assoc] at h ⊢; exact h)⟩, HG.out⟩
    by_cases hC : a < i
    · by_cases hD : en < b
      · have qA := eq_false (show ¬ (i : Int) < (m : Int) by omega); have qAn := eq_false (show ¬ i < m by omega); have qA2 := eq_false (show ¬ (mid : Int) < (en : Int) by omega); have qA2n := eq_false (show ¬ mid < en by omega); have qB := eq_false (show ¬ (m : Int) < (en : Int) by omega); have qBn := eq_false (show ¬ m < en by omega); have qB2 := eq_false (show ¬ (i : Int) < (mid : Int) by omega); have qB2n := eq_false (show ¬ i < mid by omega); have qC := eq_true (show (a : Int) < (i : Int) by omega); have qCn := eq_true (show a < i by omega); have qD := eq_true (show (en : Int) < (b : Int) by omega); have qDn := eq_true (show en < b by omega); have X1 := Ak (show 1 ≤ L1.length by omega); have X4 := Ak (show 1 ≤ R2.length by omega); have ZS1 := Ak (srt_or S1.out S3.out (by omega)); have ZS2 := Ak (srt_or S2.out S4.out (by omega)); have HO1 := Ak (show Kd.R (Kd.int .i64) 3 wr base ok (.slice (some ⟨go, 0, none⟩) len cap) (P ++ L1 ++ R1 ++ (L2 ++ (R2 ++ S))) from by have h := HO.out; rw [turn_or (show L2.length = 0 ∨ R1.length = 0 by omega)] at h; simp only [List.append_assoc] at h ⊢; exact h); have wen : wrap64 ((n0 : Int) - (i : Int)) = (en : Int) := wsub hen bn0; have wenq : IntKind.i64.wrap ((n0 : Int) - (i : Int)) = (en : Int) := (i64_w _).trans wen; clear na nam nmb nmidb namid nbl nlen nn0 np bn0 nr0 hen b1 b2 b3 b4 b5 n1 n2 n3 n4 hjb HMM2 hA hB hC hD; go_wp2
        go_end0
        have hzz := HZ.out (L1 ++ R1) (L2 ++ R2) ZS1.out (Stb.refl _) ZS2.out (Stb.refl _); exact ⟨rfl, ⟨(L1 ++ R1) ++ (L2 ++ R2), hzz.1, hzz.2, (by have h := HO1.out; simp only [List.append_assoc] at h ⊢; exact h)⟩, HG.out⟩
      have qA := eq_false (show ¬ (i : Int) < (m : Int) by omega); have qAn := eq_false (show ¬ i < m by omega); have qA2 := eq_false (show ¬ (mid : Int) < (en : Int) by omega); have qA2n := eq_false (show ¬ mid < en by omega); have qB := eq_false (show ¬ (m : Int) < (en : Int) by omega); have qBn := eq_false (show ¬ m < en by omega); have qB2 := eq_false (show ¬ (i : Int) < (mid : Int) by omega); have qB2n := eq_false (show ¬ i < mid by omega); have qC := eq_true (show (a : Int) < (i : Int) by omega); have qCn := eq_true (show a < i by omega); have qD := eq_false (show ¬ (en : Int) < (b : Int) by omega); have qDn := eq_false (show ¬ en < b by omega); have X1 := Ak (show 1 ≤ L1.length by omega); have ZS1 := Ak (srt_or S1.out S3.out (by omega)); have ZS2 := Ak (srt_or S2.out S4.out (by omega)); have HO1 := Ak (show Kd.R (Kd.int .i64) 3 wr base ok (.slice (some ⟨go, 0, none⟩) len cap) (P ++ L1 ++ R1 ++ (L2 ++ (R2 ++ S))) from by have h := HO.out; rw [turn_or (show L2.length = 0 ∨ R1.length = 0 by omega)] at h; simp only [List.append_assoc] at h ⊢; exact h); have wen : wrap64 ((n0 : Int) - (i : Int)) = (en : Int) := wsub hen bn0; have wenq : IntKind.i64.wrap ((n0 : Int) - (i : Int)) = (en : Int) := (i64_w _).trans wen; clear na nam nmb nmidb namid nbl nlen nn0 np bn0 nr0 hen b1 b2 b3 b4 b5 n1 n2 n3 n4 hjb HMM2 hA hB hC hD; go_wp2
      go_end0
      have hzz := HZ.out (L1 ++ R1) (L2 ++ R2) ZS1.out (Stb.refl _) ZS2.out (Stb.refl _); exact ⟨rfl, ⟨(L1 ++ R1) ++ (L2 ++ R2), hzz.1, hzz.2, (by have h := HO1.out; simp only [List.append_assoc] at h ⊢; exact h)⟩, HG.out⟩
    by_cases hD : en < b
    · have qA := eq_false (show ¬ (i : Int) < (m : Int) by omega); have qAn := eq_false (show ¬ i < m by omega); have qA2 := eq_false (show ¬ (mid : Int) < (en : Int) by omega); have qA2n := eq_false (show ¬ mid < en by omega); have qB := eq_false (show ¬ (m : Int) < (en : Int) by omega); have qBn := eq_false (show ¬ m < en by omega); have qB2 := eq_false (show ¬ (i : Int) < (mid : Int) by omega); have qB2n := eq_false (show ¬ i < mid by omega); have qC := eq_false (show ¬ (a : Int) < (i : Int) by omega); have qCn := eq_false (show ¬ a < i by omega); have qD := eq_true (show (en : Int) < (b : Int) by omega); have qDn := eq_true (show en < b by omega); have X4 := Ak (show 1 ≤ R2.length by omega); have ZS1 := Ak (srt_or S1.out S3.out (by omega)); have ZS2 := Ak (srt_or S2.out S4.out (by omega)); have HO1 := Ak (show Kd.R (Kd.int .i64) 3 wr base ok (.slice (some ⟨go, 0, none⟩) len cap) (P ++ L1 ++ R1 ++ (L2 ++ (R2 ++ S))) from by have h := HO.out; rw [turn_or (show L2.length = 0 ∨ R1.length = 0 by omega)] at h; simp only [List.append_assoc] at h ⊢; exact h); have wen : wrap64 ((n0 : Int) - (i : Int)) = (en : Int) := wsub hen bn0; have wenq : IntKind.i64.wrap ((n0 : Int) - (i : Int)) = (en : Int) := (i64_w _).trans wen; clear na nam nmb nmidb namid nbl nlen nn0 np bn0 nr0 hen b1 b2 b3 b4 b5 n1 n2 n3 n4 hjb HMM2 hA hB hC hD; go_wp2
      go_end0
      have hzz := HZ.out (L1 ++ R1) (L2 ++ R2) ZS1.out (Stb.refl _) ZS2.out (Stb.refl _); exact ⟨rfl, ⟨(L1 ++ R1) ++ (L2 ++ R2), hzz.1, hzz.2, (by have h := HO1.out; simp only [List.append_assoc] at h ⊢; exact h)⟩, HG.out⟩
    have qA := eq_false (show ¬ (i : Int) < (m : Int) by omega); have qAn := eq_false (show ¬ i < m by omega); have qA2 := eq_false (show ¬ (mid : Int) < (en : Int) by omega); have qA2n := eq_false (show ¬ mid < en by omega); have qB := eq_false (show ¬ (m : Int) < (en : Int) by omega); have qBn := eq_false (show ¬ m < en by omega); have qB2 := eq_false (show ¬ (i : Int) < (mid : Int) by omega); have qB2n := eq_false (show ¬ i < mid by omega); have qC := eq_false (show ¬ (a : Int) < (i : Int) by omega); have qCn := eq_false (show ¬ a < i by omega); have qD := eq_false (show ¬ (en : Int) < (b : Int) by omega); have qDn := eq_false (show ¬ en < b by omega); have ZS1 := Ak (srt_or S1.out S3.out (by omega)); have ZS2 := Ak (srt_or S2.out S4.out (by omega)); have HO1 := Ak (show Kd.R (Kd.int .i64) 3 wr base ok (.slice (some ⟨go, 0, none⟩) len cap) (P ++ L1 ++ R1 ++ (L2 ++ (R2 ++ S))) from by have h := HO.out; rw [turn_or (show L2.length = 0 ∨ R1.length = 0 by omega)] at h; simp only [List.append_assoc] at h ⊢; exact h); have wen : wrap64 ((n0 : Int) - (i : Int)) = (en : Int) := wsub hen bn0; have wenq : IntKind.i64.wrap ((n0 : Int) - (i : Int)) = (en : Int) := (i64_w _).trans wen; clear na nam nmb nmidb namid nbl nlen nn0 np bn0 nr0 hen b1 b2 b3 b4 b5 n1 n2 n3 n4 hjb HMM2 hA hB hC hD; go_wp2
    go_end0
    have hzz := HZ.out (L1 ++ R1) (L2 ++ R2) ZS1.out (Stb.refl _) ZS2.out (Stb.refl _); exact ⟨rfl, ⟨(L1 ++ R1) ++ (L2 ++ R2), hzz.1, hzz.2, (by have h := HO1.out; simp only [List.append_assoc] at h ⊢; exact h)⟩, HG.out⟩
end
-- YtgflkkjhckcipaaGreatDoorSo6
section
variable {α : Type} {κ : α → Int}
def Bks (κ : α → Int) (s : Nat) (bs : List (List α)) : Prop := ∀ b ∈ bs, Srt κ b ∧ b.length = s
theorem Bks.len {s : Nat} : ∀ {bs : List (List α)}, Bks κ s bs → bs.flatten.length = bs.length * s
  | [], _ => by simp
  | b :: bs, h => by
    rw [List.flatten_cons, List.length_append, Bks.len (fun x hx => h x (List.mem_cons_of_mem _ hx)), (h b (List.mem_cons_self ..)).2, List.length_cons, Nat.add_one_mul]
    omega
theorem Bks.snoc {s : Nat} {bs : List (List α)} {Z : List α} (h : Bks κ s bs) (hz : Srt κ Z) (hl : Z.length = s) : Bks κ s (bs ++ [Z]) := by
  intro b hb
  rcases List.mem_append.1 hb with hb | hb
  · exact h b hb
  rw [List.mem_singleton] at hb; subst hb; exact ⟨hz, hl⟩
theorem flat_snoc (bs : List (List α)) (Z : List α) : (bs ++ [Z]).flatten = bs.flatten ++ Z := by simp
def In1 (κ : α → Int) (s : Nat) (d0 : List α) (a : Nat) (e : List α) : Prop := ∃ bs S, e = bs.flatten ++ S ∧ Bks κ s bs ∧ bs.flatten.length = a ∧ Stb κ d0 e
def Out1 (κ : α → Int) (s : Nat) (d0 : List α) (e : List α) : Prop := ∃ bs Z, e = bs.flatten ++ Z ∧ Bks κ s bs ∧ Srt κ Z ∧ Z.length < s ∧ Stb κ d0 e
def In2 (κ : α → Int) (s : Nat) (d0 : List α) (a : Nat) (e : List α) : Prop := ∃ cs bs Z, e = cs.flatten ++ (bs.flatten ++ Z) ∧ Bks κ (2 * s) cs ∧ Bks κ s bs ∧ Srt κ Z ∧ Z.length < s ∧ cs.flatten.length = a ∧ Stb κ d0 e
theorem In1.start (s : Nat) (d : List α) : In1 κ s d 0 d := ⟨[], d, rfl, (fun b hb => nomatch hb), rfl, Stb.refl d⟩
theorem In1.le {s a : Nat} {d0 e : List α} (h : In1 κ s d0 a e) : a ≤ e.length := by
  obtain ⟨bs, S, rfl, hb, ha, ht⟩ := h; rw [List.length_append]; omega
theorem In1.step {s a : Nat} {d0 e : List α} (h : In1 κ s d0 a e) (hl : a + s ≤ e.length) : ∃ P Z0 S, e = P ++ Z0 ++ S ∧ P.length = a ∧ Z0.length = s ∧ (∀ x ∈ Z0, x ∈ d0) ∧ ∀ Z, Srt κ Z → Stb κ Z0 Z → In1 κ s d0 (a + s) (P ++ Z ++ S) := by
  obtain ⟨bs, S, rfl, hb, ha, ht⟩ := h; rw [List.length_append] at hl; obtain ⟨Z0, S', rfl, hz⟩ : ∃ Z0 S', S = Z0 ++ S' ∧ Z0.length = s := ⟨S.take s, S.drop s, (List.take_append_drop s S).symm, by rw [List.length_take]; omega⟩; refine ⟨bs.flatten, Z0, S', by simp, ha, hz, fun x hx => (ht.mem x).1 (by simp [hx]), fun Z s1 b1 => ⟨bs ++ [Z], S', by simp, hb.snoc s1 (b1.len.trans hz), by rw [flat_snoc, List.length_append, b1.len]; omega, ht.trans ?_⟩⟩; rw [List.append_assoc]; exact (Stb.refl _).app (b1.app (Stb.refl _))
theorem In1.last {s a : Nat} {d0 e : List α} (h : In1 κ s d0 a e) (hl : e.length < a + s) : ∃ P Z0, e = P ++ Z0 ++ [] ∧ P.length = a ∧ a + Z0.length = e.length ∧ (∀ x ∈ Z0, x ∈ d0) ∧ ∀ Z, Srt κ Z → Stb κ Z0 Z → Out1 κ s d0 (P ++ Z ++ []) := by
  obtain ⟨bs, S, rfl, hb, ha, ht⟩ := h; rw [List.length_append] at hl; refine ⟨bs.flatten, S, by simp, ha, by rw [List.length_append]; omega, fun x hx => (ht.mem x).1 (by simp [hx]), fun Z s1 b1 => ⟨bs, Z, by simp, hb, s1, by rw [b1.len]; omega, ht.trans ?_⟩⟩; rw [List.append_nil]; exact (Stb.refl _).app b1
theorem Out1.done {s : Nat} {d0 e : List α} (h : Out1 κ s d0 e) (hl : e.length ≤ s) : Srt κ e ∧ Stb κ d0 e := by
  obtain ⟨bs, Z, rfl, hb, hz, hs, ht⟩ := h; refine ⟨?_, ht⟩
  cases bs with
  | nil => exact hz
  | cons x bs => ?_
  have h1 := (hb x (List.mem_cons_self ..)); rw [List.flatten_cons, List.length_append, List.length_append, h1.2] at hl; obtain rfl : Z = [] := List.eq_nil_of_length_eq_zero (by omega); have : bs.flatten = [] := List.eq_nil_of_length_eq_zero (by omega); rw [List.flatten_cons, this, List.append_nil, List.append_nil]; exact h1.1
theorem In2.start {s : Nat} {d0 e : List α} (h : Out1 κ s d0 e) : In2 κ s d0 0 e := by
  obtain ⟨bs, Z, rfl, hb, hz, hs, ht⟩ := h; exact ⟨[], bs, Z, rfl, (fun b hb => nomatch hb), hb, hz, hs, rfl, ht⟩
theorem In2.le {s a : Nat} {d0 e : List α} (h : In2 κ s d0 a e) : a ≤ e.length := by
  obtain ⟨cs, bs, Z, rfl, hc, hb, hz, hs, ha, ht⟩ := h; rw [List.length_append]; omega
theorem In2.step {s a : Nat} {d0 e : List α} (h : In2 κ s d0 a e) (hl : a + 2 * s ≤ e.length) : ∃ P L R S, e = P ++ L ++ R ++ S ∧ P.length = a ∧ L.length = s ∧ R.length = s ∧ Srt κ L ∧ Srt κ R ∧ (∀ x ∈ L, x ∈ d0) ∧ (∀ x ∈ R, x ∈ d0) ∧ ∀ Z, Srt κ Z → Stb κ (L ++ R) Z → In2 κ s d0 (a + 2 * s) (P ++ Z ++ S) := by
  obtain ⟨cs, bs, Z, rfl, hc, hb, hz, hs, ha, ht⟩ := h; rw [List.length_append, List.length_append, hb.len, ha] at hl
  match bs, hb, ht, hl with
  | [], hb, ht, hl => simp at hl; omega
  | [x], hb, ht, hl => simp at hl; omega
  | x :: y :: bs, hb, ht, hl =>
    have hx := hb x (List.mem_cons_self ..); have hy := hb y (List.mem_cons_of_mem _ (List.mem_cons_self ..))
    refine ⟨cs.flatten, x, y, bs.flatten ++ Z, by simp, ha, hx.2, hy.2, hx.1, hy.1, fun z hz => (ht.mem z).1 (by simp [hz]), fun z hz => (ht.mem z).1 (by simp [hz]), fun V s1 b1 =>
      ⟨cs ++ [V], bs, Z, by simp, hc.snoc s1 (by rw [b1.len, List.length_append]; omega), fun b hb' => hb b (List.mem_cons_of_mem _ (List.mem_cons_of_mem _ hb')), hz, hs, by rw [flat_snoc, List.length_append, b1.len, List.length_append]; omega, ht.trans ?_⟩⟩
    have := (Stb.refl (κ := κ) cs.flatten).app (b1.app (Stb.refl (κ := κ) (bs.flatten ++ Z)))
    simpa using this
theorem In2.merge {s a : Nat} {d0 e : List α} (h : In2 κ s d0 a e) (h1 : e.length < a + 2 * s) (h2 : a + s < e.length) : ∃ P L R, e = P ++ L ++ R ++ [] ∧ P.length = a ∧ L.length = s ∧ 1 ≤ R.length ∧ a + s + R.length = e.length ∧ Srt κ L ∧ Srt κ R ∧ (∀ x ∈ L, x ∈ d0) ∧ (∀ x ∈ R, x ∈ d0) ∧ ∀ Z, Srt κ Z → Stb κ (L ++ R) Z → Out1 κ (2 * s) d0 (P ++ Z ++ []) := by
  obtain ⟨cs, bs, Z, rfl, hc, hb, hz, hs, ha, ht⟩ := h; rw [List.length_append, List.length_append, hb.len, ha] at h1 h2
  match bs, hb, ht, h1, h2 with
  | [], hb, ht, h1, h2 => simp at h2; omega
  | x :: y :: bs, hb, ht, h1, h2 => simp only [List.length_cons, Nat.add_one_mul] at h1; omega
  | [x], hb, ht, h1, h2 =>
    have hx := hb x (List.mem_cons_self ..); simp only [List.length_cons, List.length_nil, Nat.zero_add, Nat.one_mul] at h1 h2
    refine ⟨cs.flatten, x, Z, by simp, ha, hx.2, by omega, by simp only [List.length_append, List.flatten_cons, List.flatten_nil, List.append_nil, hx.2]; omega, hx.1, hz, fun z hz => (ht.mem z).1 (by simp [hz]), fun z hz => (ht.mem z).1 (by simp [hz]), fun V s1 b1 =>
      ⟨cs, V, by simp, hc, s1, by rw [b1.len, List.length_append]; omega, ht.trans ?_⟩⟩
    have := (Stb.refl (κ := κ) cs.flatten).app b1
    simpa using this
theorem In2.rest {s a : Nat} {d0 e : List α} (h : In2 κ s d0 a e) (h1 : e.length < a + 2 * s) (h2 : ¬ a + s < e.length) : Out1 κ (2 * s) d0 e := by
  obtain ⟨cs, bs, Z, rfl, hc, hb, hz, hs, ha, ht⟩ := h; rw [List.length_append, List.length_append, hb.len, ha] at h1 h2
  match bs, hb, ht, h1, h2 with
  | [], hb, ht, h1, h2 => exact ⟨cs, Z, by simp, hc, hz, by omega, ht⟩
  | x :: y :: bs, hb, ht, h1, h2 => simp only [List.length_cons, Nat.add_one_mul] at h1; omega
  | [x], hb, ht, h1, h2 =>
    have hx := hb x (List.mem_cons_self ..); simp only [List.length_cons, List.length_nil, Nat.zero_add, Nat.one_mul] at h1 h2; obtain rfl : Z = [] := List.eq_nil_of_length_eq_zero (by omega); exact ⟨cs, x, by simp, hc, hx.1, by omega, ht⟩
end
theorem wmul2 {x z : Nat} (h : 2 * x = z) (hx : z ≤ 4503599627370496) : wrap64 (2 * (x : Int)) = (z : Int) := by unfold wrap64; omega
section
attribute [local go_sem] Oper.semAt_some
theorem insertion_none (g3 go base len cap a : Nat) (ok : Nat → Prop) (d : List Int) (W0 : World) (hR : Kd.R (Kd.int .i64) 3 W0 base ok (.slice (some ⟨go, 0, none⟩) len cap) d) (hal : a ≤ len) (hl : len ≤ 1048576) :
    Calls Tryz.prog 94 #[.slice (some ⟨go, 0, none⟩) len cap, .int .i64 (a : Int), .int .i64 (a : Int), .func (.func 90) #[] #[.pointer (some ⟨g3, 0, none⟩)]] W0 fun e W' => e = .returned (.tuple #[]) ∧ Kd.R (Kd.int .i64) 3 W' base ok (.slice (some ⟨go, 0, none⟩) len cap) d ∧ W0.grownBy W' (some go) := by
  have HO := Ak hR; have HG := Ak (World.grownBy.refl W0 (some go)); obtain ⟨i0, hi0⟩ : ∃ i0, a + 1 = i0 := ⟨_, rfl⟩; have HI := Ak hi0
  have bi0 : i0 ≤ 4503599627370496 := by omega
  have wa : wrap64 ((a : Int) + 1) = (i0 : Int) := wadd (x := a) (y := 1) hi0 bi0; have wa2 : IntKind.i64.wrap ((a : Int) + 1) = (i0 : Int) := (i64_w _).trans wa; clear hR hi0 bi0 hal hl; go_enter Tryz.func94, Tryz.ntmps94; go_wp2
  go_loopw [8] (fun v8 w' => v8 = .int .i64 (i0 : Int) ∧ Aside0 (Kd.R (Kd.int .i64) 3 w' base ok (.slice (some ⟨go, 0, none⟩) len cap) d) ∧ Aside0 (W0.grownBy w' (some go))) (fun v8 _ => 0)
  case atStart => exact ⟨rfl, HO, HG⟩
  case round =>
    clear HO HG wa wa2; obtain ⟨rfl, HO, HG⟩ := hrel; have q0 := eq_false (show ¬ (i0 : Int) < (a : Int) by have := HI.out; omega); have q00 := eq_false (show ¬ i0 < a by have := HI.out; omega); go_wp2
    go_end0
    exact ⟨rfl, HO.out, HG.out⟩
theorem insertion_any (κ : Int → Int) (Dm : Int → Prop) (g3 go base len cap a b : Nat) (ok : Nat → Prop) (P Z0 S : List Int) (W0 : World) (hR : Kd.R (Kd.int .i64) 3 W0 base ok (.slice (some ⟨go, 0, none⟩) len cap) (P ++ Z0 ++ S)) (ha : P.length = a) (hb : a + Z0.length = b) (hl : len ≤ 1048576) (hD : ∀ x ∈ Z0, Dm x) (hC : CmpOk κ Dm g3 go W0) :
    Calls Tryz.prog 94 #[.slice (some ⟨go, 0, none⟩) len cap, .int .i64 (a : Int), .int .i64 (b : Int), .func (.func 90) #[] #[.pointer (some ⟨g3, 0, none⟩)]] W0 fun e W' => e = .returned (.tuple #[]) ∧ (∃ Z, Srt κ Z ∧ Stb κ Z0 Z ∧ Kd.R (Kd.int .i64) 3 W' base ok (.slice (some ⟨go, 0, none⟩) len cap) (P ++ Z ++ S)) ∧ W0.grownBy W' (some go) := by
  cases Z0 with
  | cons x Z0 => exact insertion_calls κ Dm g3 go base len cap a b ok P (x :: Z0) S W0 hR ha hb (by simp) hl hD hC
  | nil => ?_
  have hlen := row_len hR; rw [List.length_append, List.length_append] at hlen
  obtain rfl : a = b := by simpa using hb
  refine (insertion_none g3 go base len cap a ok _ W0 hR (by omega) hl).mono ?_; rintro e w ⟨rfl, h1, h2⟩; exact ⟨rfl, ⟨[], List.Pairwise.nil, Stb.refl _, h1⟩, h2⟩
theorem stable_calls (κ : Int → Int) (Dm : Int → Prop) (g3 go base len cap : Nat) (ok : Nat → Prop) (d : List Int) (W0 : World) (hR : Kd.R (Kd.int .i64) 3 W0 base ok (.slice (some ⟨go, 0, none⟩) len cap) d) (hl : len ≤ 1048576) (hD : ∀ x ∈ d, Dm x) (hC : CmpOk κ Dm g3 go W0) (hS : ∀ a m b : Nat, SymOk κ Dm g3 go base len cap ok a m b) :
    Calls Tryz.prog 93 #[.slice (some ⟨go, 0, none⟩) len cap, .int .i64 (len : Int), .func (.func 90) #[] #[.pointer (some ⟨g3, 0, none⟩)]] W0 fun e W' => e = .returned (.tuple #[]) ∧ (∃ Z, Srt κ Z ∧ Stb κ d Z ∧ Kd.R (Kd.int .i64) 3 W' base ok (.slice (some ⟨go, 0, none⟩) len cap) Z) ∧ W0.grownBy W' (some go) := by
  have HO := Ak hR; have HG := Ak (World.grownBy.refl W0 (some go)); have HLEN := Ak hl; have HD := Ak hD; have HC := Ak hC; have HS := Ak hS; have ST := Ak (In1.start (κ := κ) 20 d); clear hR hl hD hC hS; go_enter Tryz.func93, Tryz.ntmps93; go_wp2
  go_loopw [7, 8] (fun v7 v8 w' => ∃ (a b : Nat) (e : List Int), v7 = .int .i64 (a : Int) ∧ v8 = .int .i64 (b : Int) ∧ Aside0 (a + 20 = b) ∧ Aside0 (Kd.R (Kd.int .i64) 3 w' base ok (.slice (some ⟨go, 0, none⟩) len cap) e) ∧ Aside0 (W0.grownBy w' (some go)) ∧ Aside0 (In1 κ 20 d a e))
    (fun _ v8 _ => len + 1 - (intOf v8).toNat)
  case atStart => exact ⟨0, 20, d, by simp, by simp, ⟨by omega⟩, HO, HG, ST⟩
  case round =>
    clear HO HG ST; obtain ⟨a, b, e, rfl, rfl, HAB, HO, HG, ST⟩ := hrel; have hab := HAB.out; have hlen := HLEN.out; have hel := row_len HO.out
    by_cases hbl : b ≤ len
    · have q0 := eq_true (show (b : Int) ≤ (len : Int) by omega); have q00 := eq_true hbl; obtain ⟨P, Z0, S, rfl, hP, hZ, hmem, hnext⟩ := ST.out.step (show a + 20 ≤ e.length by omega); obtain ⟨b2, hb2⟩ : ∃ b2, b + 20 = b2 := ⟨_, rfl⟩
      have bb2 : b2 ≤ 4503599627370496 := by omega
      have X1 := Ak hP; have X2 := Ak (show a + Z0.length = b by omega); have X3 := Ak (show ∀ x ∈ Z0, Dm x from fun x hx => HD.out x (hmem x hx)); have X4 := Ak (show ∀ Z, Srt κ Z → Stb κ Z0 Z → In1 κ 20 d b (P ++ Z ++ S) from hab ▸ hnext); have X5 := Ak (show b + 20 = b2 ∧ b ≤ len by omega); have wb2 : wrap64 ((b : Int) + 20) = (b2 : Int) := wadd (x := b) (y := 20) hb2 bb2; have wb2q : IntKind.i64.wrap ((b : Int) + 20) = (b2 : Int) := (i64_w _).trans wb2; clear hab hlen hel hbl hP hZ hmem hnext hb2 bb2 ST HAB
      go_wp2_with (go_at_call 94; refine (insertion_any κ Dm g3 go base len cap a b ok P Z0 S _ HO.out X1.out X2.out HLEN.out X3.out (HC.out.later HG.out)).mono ?_; rintro e_ w5 ⟨rfl, ⟨Z, y1, y2, ho⟩, hg⟩; have HO1 := Ak ho; have HG1 := Ak (grown_trans HG.out hg); have X6 := Ak (X4.out Z y1 y2); clear ho hg y1 y2)
      go_roundw
      case rel => exact ⟨b, b2, _, rfl, rfl, ⟨X5.out.1⟩, HO1, HG1, X6⟩
      case measure => have h1 := X5.out; simp [intOf]; omega
    have q0 := eq_false (show ¬ (b : Int) ≤ (len : Int) by omega); have q00 := eq_false hbl; obtain ⟨P, Z0, rfl, hP, hZ, hmem, hnext⟩ := ST.out.last (show e.length < a + 20 by omega); have X1 := Ak hP; have X2 := Ak (show a + Z0.length = len by omega); have X3 := Ak (show ∀ x ∈ Z0, Dm x from fun x hx => HD.out x (hmem x hx)); have X4 := Ak hnext; clear hab hlen hel hbl hP hZ hmem hnext ST HAB
    go_wp2_with (go_at_call 94; refine (insertion_any κ Dm g3 go base len cap a len ok P Z0 [] _ HO.out X1.out X2.out HLEN.out X3.out (HC.out.later HG.out)).mono ?_; rintro e_ w5 ⟨rfl, ⟨Z, y1, y2, ho⟩, hg⟩; have HO1 := Ak ho; have HG1 := Ak (grown_trans HG.out hg); have X6 := Ak (X4.out Z y1 y2); clear ho hg y1 y2)
    clear HO HG
    go_loopw [6] (fun v6 w' => ∃ (s : Nat) (e : List Int), v6 = .int .i64 (s : Int) ∧ Aside0 (1 ≤ s) ∧ Aside0 (Kd.R (Kd.int .i64) 3 w' base ok (.slice (some ⟨go, 0, none⟩) len cap) e) ∧ Aside0 (W0.grownBy w' (some go)) ∧ Aside0 (Out1 κ s d e))
      (fun v6 _ => len + 1 - (intOf v6).toNat)
    case atStart => exact ⟨20, _, by simp, ⟨by omega⟩, HO1, HG1, X6⟩
    case round =>
      clear HO1 HG1 X6 X1 X2 X3 X4 q0 q00; obtain ⟨s, e, rfl, HS1, HO, HG, ST⟩ := hrel; have hs1 := HS1.out; have hlen := HLEN.out; have hel := row_len HO.out
      by_cases hsl : s < len
      rotate_left
      · have q0 := eq_false (show ¬ (s : Int) < (len : Int) by omega); have q00 := eq_false hsl; have RES := Ak (ST.out.done (show e.length ≤ s by omega)); clear hs1 hlen hel hsl ST; go_wp2
        go_end0
        exact ⟨rfl, ⟨e, RES.out.1, RES.out.2, HO.out⟩, HG.out⟩
      have q0 := eq_true (show (s : Int) < (len : Int) by omega); have q00 := eq_true hsl; obtain ⟨s2, hs2⟩ : ∃ s2, 2 * s = s2 := ⟨_, rfl⟩; have HS2 := Ak (show 2 * s = s2 ∧ s < len ∧ 1 ≤ s by omega); have ST2 := Ak (In2.start ST.out)
      have bs2 : s2 ≤ 4503599627370496 := by omega
      have ws2 : wrap64 (2 * (s : Int)) = (s2 : Int) := wmul2 hs2 bs2; have ws2q : IntKind.i64.wrap (2 * (s : Int)) = (s2 : Int) := (i64_w _).trans ws2; have ws3 : wrap64 ((s : Int) * 2) = (s2 : Int) := (congrArg wrap64 (Int.mul_comm _ _)).trans ws2; have ws3q : IntKind.i64.wrap ((s : Int) * 2) = (s2 : Int) := (i64_w _).trans ws3; have WS := Ak (And.intro ws2 ws3); clear hs1 hlen hel hsl hs2 bs2 ST; go_wp2; clear q0 q00 ws2 ws2q ws3 ws3q
      go_loopw [7, 8] (fun v7 v8 w' => ∃ (a b : Nat) (e : List Int), v7 = .int .i64 (a : Int) ∧ v8 = .int .i64 (b : Int) ∧ Aside0 (a + s2 = b) ∧ Aside0 (Kd.R (Kd.int .i64) 3 w' base ok (.slice (some ⟨go, 0, none⟩) len cap) e) ∧ Aside0 (W0.grownBy w' (some go)) ∧ Aside0 (In2 κ s d a e))
        (fun _ v8 _ => len + 1 - (intOf v8).toNat)
      case atStart => exact ⟨0, s2, e, by simp, rfl, ⟨by omega⟩, HO, HG, ST2⟩
      case round =>
        clear HO HG ST2; obtain ⟨a, b, e, rfl, rfl, HAB, HO, HG, ST⟩ := hrel; have hab := HAB.out; have hlen := HLEN.out; have hel := row_len HO.out; have hss := HS2.out
        by_cases hbl : b ≤ len
        · have q0 := eq_true (show (b : Int) ≤ (len : Int) by omega); have q00 := eq_true hbl; obtain ⟨P, L, R, S, rfl, hP, hL, hR, sL, sR, mL, mR, hnext⟩ := ST.out.step (show a + 2 * s ≤ e.length by omega); obtain ⟨m, hm⟩ : ∃ m, a + s = m := ⟨_, rfl⟩
          have bm : m ≤ 4503599627370496 := by omega
          obtain ⟨b2, hb2⟩ : ∃ b2, b + s2 = b2 := ⟨_, rfl⟩
          have bb2 : b2 ≤ 4503599627370496 := by omega
          have X1 := Ak hP.symm; have X2 := Ak (show m = a + L.length by omega); have X3 := Ak (show b = m + R.length by omega); have X4 := Ak (show 1 ≤ L.length by omega); have X5 := Ak (show 1 ≤ R.length by omega); have X6 := Ak sL; have X7 := Ak sR; have X8 := Ak (show ∀ x ∈ L, Dm x from fun x hx => HD.out x (mL x hx)); have X9 := Ak (show ∀ x ∈ R, Dm x from fun x hx => HD.out x (mR x hx)); have XN := Ak (show ∀ Z, Srt κ Z → Stb κ (L ++ R) Z → In2 κ s d b (P ++ Z ++ S) from (show a + 2 * s = b by omega) ▸ hnext); have XB := Ak (show b + s2 = b2 ∧ b ≤ len ∧ 1 ≤ s2 by omega); have wam : wrap64 ((a : Int) + (s : Int)) = (m : Int) := wadd hm bm; have wamq : IntKind.i64.wrap ((a : Int) + (s : Int)) = (m : Int) := (i64_w _).trans wam; have wb2 : wrap64 ((b : Int) + (s2 : Int)) = (b2 : Int) := wadd hb2 bb2; have wb2q : IntKind.i64.wrap ((b : Int) + (s2 : Int)) = (b2 : Int) := (i64_w _).trans wb2; have ws2 := WS.out.1; have ws2q : IntKind.i64.wrap (2 * (s : Int)) = (s2 : Int) := (i64_w _).trans ws2; clear hab hlen hel hss hbl hP hL hR sL sR mL mR hnext hm bm hb2 bb2 ST HAB
          go_wp2_with (go_at_call 95; refine ((HS.out a m b).call P L R S _ HO.out X1.out X2.out X3.out X4.out X5.out X6.out X7.out HLEN.out X8.out X9.out (HC.out.later HG.out)).mono ?_; rintro e_ w5 ⟨rfl, ⟨Z, y1, y2, ho⟩, hg⟩; have HO1 := Ak ho; have HG1 := Ak (grown_trans HG.out hg); have XZ := Ak (XN.out Z y1 y2); clear ho hg y1 y2)
          go_roundw
          case rel => exact ⟨b, b2, _, rfl, rfl, ⟨XB.out.1⟩, HO1, HG1, XZ⟩
          case measure => have h1 := XB.out; simp [intOf]; omega
        have q0 := eq_false (show ¬ (b : Int) ≤ (len : Int) by omega); have q00 := eq_false hbl; obtain ⟨m, hm⟩ : ∃ m, a + s = m := ⟨_, rfl⟩; have hal := ST.out.le
        have bm : m ≤ 4503599627370496 := by omega
        have XB := Ak (show s < s2 ∧ s < len ∧ 1 ≤ s2 by omega)
        by_cases hml : m < len
        · have q1 := eq_true (show (m : Int) < (len : Int) by omega); have q11 := eq_true hml; obtain ⟨P, L, R, rfl, hP, hL, hR, hR2, sL, sR, mL, mR, hnext⟩ := ST.out.merge (show e.length < a + 2 * s by omega) (show a + s < e.length by omega); have X1 := Ak hP.symm; have X2 := Ak (show m = a + L.length by omega); have X3 := Ak (show len = m + R.length by omega); have X4 := Ak (show 1 ≤ L.length by omega); have X5 := Ak hR; have X6 := Ak sL; have X7 := Ak sR; have X8 := Ak (show ∀ x ∈ L, Dm x from fun x hx => HD.out x (mL x hx)); have X9 := Ak (show ∀ x ∈ R, Dm x from fun x hx => HD.out x (mR x hx)); have XN := Ak (show ∀ Z, Srt κ Z → Stb κ (L ++ R) Z → Out1 κ s2 d (P ++ Z ++ []) from hss.1 ▸ hnext); have wam : wrap64 ((a : Int) + (s : Int)) = (m : Int) := wadd hm bm; have wamq : IntKind.i64.wrap ((a : Int) + (s : Int)) = (m : Int) := (i64_w _).trans wam; have ws3 := WS.out.2; have ws3q : IntKind.i64.wrap ((s : Int) * 2) = (s2 : Int) := (i64_w _).trans ws3; clear hab hlen hel hss hbl hP hL hR hR2 sL sR mL mR hnext hm bm hml hal ST HAB
          go_wp2_with (go_at_call 95; refine ((HS.out a m len).call P L R [] _ HO.out X1.out X2.out X3.out X4.out X5.out X6.out X7.out HLEN.out X8.out X9.out (HC.out.later HG.out)).mono ?_; rintro e_ w5 ⟨rfl, ⟨Z, y1, y2, ho⟩, hg⟩; have HO1 := Ak ho; have HG1 := Ak (grown_trans HG.out hg); have XZ := Ak (XN.out Z y1 y2); clear ho hg y1 y2)
          go_roundw
          case rel => exact ⟨s2, _, rfl, ⟨XB.out.2.2⟩, HO1, HG1, XZ⟩
          case measure => have h1 := XB.out; simp [intOf]; omega
        have q1 := eq_false (show ¬ (m : Int) < (len : Int) by omega); have q11 := eq_false hml; have XZ := Ak (show Out1 κ s2 d e from hss.1 ▸ ST.out.rest (show e.length < a + 2 * s by omega) (show ¬ a + s < e.length by omega)); have wam : wrap64 ((a : Int) + (s : Int)) = (m : Int) := wadd hm bm; have wamq : IntKind.i64.wrap ((a : Int) + (s : Int)) = (m : Int) := (i64_w _).trans wam; have ws3 := WS.out.2; have ws3q : IntKind.i64.wrap ((s : Int) * 2) = (s2 : Int) := (i64_w _).trans ws3; clear hab hlen hel hss hbl hm bm hml hal ST HAB; go_wp2
        go_roundw
        case rel => exact ⟨s2, e, rfl, ⟨XB.out.2.2⟩, HO, HG, XZ⟩
        case measure => have h1 := XB.out; simp [intOf]; omega
theorem sortStable_calls (κ : Int → Int) (Dm : Int → Prop) (g3 go base len cap : Nat) (ok : Nat → Prop) (d : List Int) (W0 : World) (hR : Kd.R (Kd.int .i64) 3 W0 base ok (.slice (some ⟨go, 0, none⟩) len cap) d) (hl : len ≤ 1048576) (hD : ∀ x ∈ d, Dm x) (hC : CmpOk κ Dm g3 go W0) (hS : ∀ a m b : Nat, SymOk κ Dm g3 go base len cap ok a m b) :
    Calls Tryz.prog 89 #[.slice (some ⟨go, 0, none⟩) len cap, .func (.func 90) #[] #[.pointer (some ⟨g3, 0, none⟩)]] W0 fun e W' => e = .returned (.tuple #[]) ∧ (∃ Z, Srt κ Z ∧ Stb κ d Z ∧ Kd.R (Kd.int .i64) 3 W' base ok (.slice (some ⟨go, 0, none⟩) len cap) Z) ∧ W0.grownBy W' (some go) := by
  have HO := Ak hR; have HLEN := Ak hl; have HD := Ak hD; have HC := Ak hC; have HS := Ak hS; clear hR hl hD hC hS; go_enter Tryz.func89, Tryz.ntmps89
  go_wp2_with (go_at_call 93; refine (stable_calls κ Dm g3 go base len cap ok d _ HO.out HLEN.out HD.out HC.out HS.out).mono ?_; rintro e_ w5 ⟨rfl, ho, hg⟩; have HO1 := Ak ho; have HG1 := Ak hg; clear ho hg)
  go_end0
  exact ⟨rfl, HO1.out, HG1.out⟩
end
-- YtgflkkjhckcipaaGreatDoorSo7
theorem sym_ok (κ : Int → Int) (Dm : Int → Prop) (g3 go base len cap : Nat) (ok : Nat → Prop) : ∀ (n a m b : Nat), b - a = n → SymOk κ Dm g3 go base len cap ok a m b := by
  intro n
  induction n using Nat.strongRecOn with
  | ind n ih =>
    intro a m b hn P L R S W0 hR ha hm hb hl1 hr1 hsL hsR hl hDL hDR hC; have hlen := row_len hR; simp only [List.length_append] at hlen
    by_cases h1 : L.length = 1
    · obtain ⟨x, rfl⟩ := List.length_eq_one_iff.1 h1; have h := sym_one κ Dm g3 go base len cap a m b ok P x R S W0 (by have h := hR; simp only [List.append_assoc, List.cons_append, List.nil_append] at h ⊢; exact h) ha (by simpa using hm) hb hsR hl (hDL x (List.mem_singleton.2 rfl)) hDR hC; exact h
    by_cases h2 : R.length = 1
    · obtain ⟨x, rfl⟩ := List.length_eq_one_iff.1 h2; exact sym_last κ Dm g3 go base len cap a m b ok P L x S W0 (by have h := hR; simp only [List.append_assoc, List.cons_append, List.nil_append] at h ⊢; exact h) ha hm (by simpa using hb) (by omega) hsL hl (hDR x (List.mem_singleton.2 rfl)) hDL hC
    have ham : a < m := by omega
    have hmb : m < b := by omega
    have hgap : a + 4 ≤ b := by omega
    have hble : b ≤ len := by omega
    obtain ⟨sab, hsab⟩ : ∃ s, a + b = s := ⟨_, rfl⟩; obtain ⟨mid, hmid⟩ : ∃ mid, sab / 2 = mid := ⟨_, rfl⟩
    have hmid2 : mid = (a + b) / 2 := by rw [hsab, hmid]
    obtain ⟨n0, hn0⟩ : ∃ n, mid + m = n := ⟨_, rfl⟩
    have hmidb : mid < b := by omega
    have hamid : a < mid := by omega
    obtain ⟨p, hp⟩ : ∃ p, 1 + p = n0 := ⟨n0 - 1, by omega⟩
    have hp2 : 1 + p = mid + m := by rw [hp, hn0]
    obtain ⟨ll, hll⟩ : ∃ ll, a + ll = m := ⟨L.length, hm.symm⟩; obtain ⟨lr, hlr⟩ : ∃ lr, m + lr = b := ⟨R.length, hb.symm⟩; have IH : ∀ a' m' b' : Nat, b' - a' < b - a → SymOk κ Dm g3 go base len cap ok a' m' b' := fun a' m' b' h => ih (b' - a') (by omega) a' m' b' rfl; have DD := Ak (show ∀ k, a ≤ k → k < b → Dm ((P ++ L ++ R ++ S).getD k 0) from fun k k1 k2 => sym_dom ha hm hb hDL hDR k1 k2); have N1 : a = P.length ∧ a < m ∧ m < b ∧ mid < b ∧ a < mid ∧ b ≤ len ∧ len ≤ 1048576 ∧ mid + m = n0 ∧ 1 + p = n0 ∧ n0 ≤ 4503599627370496 := ⟨ha, ham, hmb, hmidb, hamid, hble, hl, hn0, hp, by omega⟩
    have B1 : sab ≤ 4503599627370496 := by omega
    have B2 : mid ≤ 4503599627370496 := by omega
    have B3 : n0 ≤ 4503599627370496 := by omega
    have B4 : m ≤ 4503599627370496 := by omega
    have B5 : b ≤ 4503599627370496 := by omega
    have B6 : p ≤ 4503599627370496 := by omega
    have B7 : ll ≠ 1 := by omega
    have B8 : lr ≠ 1 := by omega
    have go1 : ∀ s0 r0, (mid < m ∧ s0 = mid + m - b ∧ r0 = mid) ∨ (m ≤ mid ∧ s0 = a ∧ r0 = m) → r0 ≤ m ∧ Aside0 (Bs3 κ 0 (P ++ L ++ R ++ S) p s0 r0 s0 r0) ∧ Aside0 (∀ i j c : Nat, Bs3 κ 0 (P ++ L ++ R ++ S) p s0 r0 i j → i < j → c = (i + j) / 2 → i ≤ c ∧ c < j ∧ c ≤ p ∧ m ≤ p - c ∧ p - c < b ∧ a ≤ c ∧ c < b) := fun s0 r0 hc => by
      obtain ⟨k1, k2, k3, k4⟩ := sym_nums ham hmb hmid2 hp2 hc; refine ⟨k2, ⟨⟨Nat.le_refl _, k4, Nat.le_refl _, .inl rfl, .inl rfl⟩⟩, ⟨fun i j c s h3 h4 => ?_⟩⟩; obtain ⟨e1, e2, e3, e4⟩ := sym_step s h3 h4; obtain ⟨f1, f2, f3, f4, f5⟩ := sym_at ham hmb hmid2 hp2 hc e3 e4; exact ⟨e1, e2, f1, f2, f3, f4, f5⟩
    by_cases hlt : mid < m
    · obtain ⟨s0, hs0⟩ : ∃ s0, mid + m - b = s0 := ⟨_, rfl⟩; obtain ⟨g1, g2, g3'⟩ := go1 s0 mid (.inl ⟨hlt, hs0.symm, rfl⟩); have TAIL := Ak (fun (st en : Nat) (he : en = mid + m - st) (s : Bs3 κ 0 (P ++ L ++ R ++ S) p s0 mid st st) => sym_tail (S := S) (Dm := Dm) ha hm hb hsL hsR hl1 hr1 hmid2 hp2 he (.inl ⟨hlt, hs0.symm, rfl⟩) hDL hDR s); exact sym_main1 κ Dm g3 go base len cap a m b mid p s0 mid n0 ll lr sab ok P L R S _ W0 hR B1 hsab hmid B2 hn0 B3 hp hll hlr B4 B5 B7 B8 ⟨hlt, by omega, rfl⟩ ⟨N1.1, N1.2.1, N1.2.2.1, N1.2.2.2.1, N1.2.2.2.2.1, hble, hl, hn0, hp, B3, g1, B6⟩ g2 g3' DD TAIL ⟨hC⟩ ⟨IH⟩
    obtain ⟨g1, g2, g3'⟩ := go1 a m (.inr ⟨by omega, rfl, rfl⟩); have TAIL := Ak (fun (st en : Nat) (he : en = mid + m - st) (s : Bs3 κ 0 (P ++ L ++ R ++ S) p a m st st) => sym_tail (S := S) (Dm := Dm) ha hm hb hsL hsR hl1 hr1 hmid2 hp2 he (.inr ⟨by omega, rfl, rfl⟩) hDL hDR s); exact sym_main2 κ Dm g3 go base len cap a m b mid p a m n0 ll lr sab ok P L R S _ W0 hR B1 hsab hmid B2 hn0 B3 hp hll hlr B4 B5 B7 B8 ⟨by omega, rfl, rfl⟩ ⟨N1.1, N1.2.1, N1.2.2.1, N1.2.2.2.1, N1.2.2.2.2.1, hble, hl, hn0, hp, B3, g1, B6⟩ g2 g3' DD TAIL ⟨hC⟩ ⟨IH⟩
-- YtgflkkjhckcipaaGreatDoorSo8
section
variable {α : Type} {κ : α → Int}
theorem srt_unique : ∀ {Z Z' : List α}, Srt κ Z → Srt κ Z' → Stb κ Z Z' → Z = Z'
  | [], Z', _, _, h => (List.eq_nil_of_length_eq_zero (h.len.trans rfl)).symm
  | z :: Z, [], _, _, h => absurd h.len (by simp)
  | z :: Z, z' :: Z', s, s', h => by
    obtain ⟨c, sZ⟩ := List.pairwise_cons.1 s; obtain ⟨c', sZ'⟩ := List.pairwise_cons.1 s'
    have e : κ z = κ z' := by
      have h1 : κ z ≤ κ z' := by
        rcases List.mem_cons.1 ((h.mem z').1 (List.mem_cons_self ..)) with e | e
        · rw [e]; exact Int.le_refl _
        · exact c _ e
      have h2 : κ z' ≤ κ z := by
        rcases List.mem_cons.1 ((h.mem z).2 (List.mem_cons_self ..)) with e | e
        · rw [e]; exact Int.le_refl _
        · exact c' _ e
      omega
    have hk := h (κ z); rw [List.filter_cons, List.filter_cons, if_pos (beq_iff_eq.mpr e.symm), if_pos (beq_iff_eq.mpr rfl)] at hk
    injection hk with ez hk
    subst ez
    congr 1
    refine srt_unique sZ sZ' (fun k => ?_); have hk2 := h k; rw [List.filter_cons, List.filter_cons] at hk2
    by_cases hh : κ z' = k
    · rw [if_pos (beq_iff_eq.mpr hh), if_pos (beq_iff_eq.mpr hh)] at hk2; injection hk2
    · rw [if_neg (by rw [beq_iff_eq]; exact hh), if_neg (by rw [beq_iff_eq]; exact hh)] at hk2; exact hk2
def byKey (κ : α → Int) (d : List α) (ks : List Nat) : List α := ks.flatMap fun (k : Nat) => d.filter fun x => κ x == (k : Int)
theorem byKey_mem {d : List α} {ks : List Nat} {x : α} : x ∈ byKey κ d ks ↔ x ∈ d ∧ ∃ k ∈ ks, κ x = ((k : Nat) : Int) := by
  unfold byKey; rw [List.mem_flatMap]
  constructor
  · rintro ⟨k, hk, hx⟩; rw [List.mem_filter, beq_iff_eq] at hx; exact ⟨hx.1, k, hk, hx.2⟩
  rintro ⟨hx, k, hk, e⟩; exact ⟨k, hk, List.mem_filter.2 ⟨hx, beq_iff_eq.mpr e⟩⟩
theorem byKey_srt (d : List α) : ∀ (ks : List Nat), ks.Pairwise (· < ·) → Srt κ (byKey κ d ks)
  | [], _ => List.Pairwise.nil
  | k :: ks, h => by
    obtain ⟨c, h'⟩ := List.pairwise_cons.1 h; unfold byKey; rw [List.flatMap_cons]; refine srt_app.2 ⟨?_, byKey_srt d ks h', fun x hx y hy => ?_⟩
    · have he : ∀ x ∈ d.filter (fun x => κ x == (k : Int)), κ x = (k : Int) := fun x hx => beq_iff_eq.mp (List.mem_filter.1 hx).2; refine List.Pairwise.imp_of_mem (R := fun _ _ => True) (fun ha hb _ => ?_) (List.pairwise_of_forall (fun _ _ => trivial)); rw [he _ ha, he _ hb]; exact Int.le_refl _
    · obtain ⟨_, j, hj, e⟩ := byKey_mem.1 hy; have := c j hj; rw [beq_iff_eq.mp (List.mem_filter.1 hx).2, e]
      omega
theorem byKey_filter (d : List α) : ∀ (ks : List Nat), ks.Pairwise (· < ·) → ∀ j : Int, (byKey κ d ks).filter (fun x => κ x == j) = if ∃ k ∈ ks, ((k : Nat) : Int) = j then d.filter (fun x => κ x == j) else []
  | [], _, j => by rw [if_neg (by rintro ⟨k, hk, _⟩; cases hk)]; rfl
  | k :: ks, h, j => by
    obtain ⟨c, h'⟩ := List.pairwise_cons.1 h; have ih := byKey_filter d ks h' j; unfold byKey at ih ⊢; rw [List.flatMap_cons, List.filter_append, ih]
    by_cases e : (k : Int) = j
    · subst e; rw [if_neg (by rintro ⟨i, hi, e⟩; have := c i hi; omega), if_pos ⟨k, List.mem_cons_self .., rfl⟩, List.append_nil, List.filter_filter]; exact List.filter_congr (fun x _ => by cases (κ x == (k : Int)) <;> rfl)
    · have e1 : (d.filter (fun x => κ x == (k : Int))).filter (fun x => κ x == j) = [] := filter_none (fun x hx => by rw [beq_iff_eq.mp (List.mem_filter.1 hx).2]; exact e); rw [e1, List.nil_append]
      by_cases hj : ∃ i ∈ ks, ((i : Nat) : Int) = j
      · obtain ⟨i, hi, ei⟩ := hj; rw [if_pos ⟨i, hi, ei⟩, if_pos ⟨i, List.mem_cons_of_mem _ hi, ei⟩]
      · rw [if_neg hj, if_neg]; rintro ⟨i, hi, ei⟩
        rcases List.mem_cons.1 hi with rfl | hi
        · exact e ei
        · exact hj ⟨i, hi, ei⟩
theorem byKey_stb (d : List α) (ks : List Nat) (h : ks.Pairwise (· < ·)) (hd : ∀ x ∈ d, ∃ k ∈ ks, κ x = ((k : Nat) : Int)) : Stb κ d (byKey κ d ks) := fun j => by
  rw [byKey_filter d ks h j]
  by_cases hj : ∃ k ∈ ks, ((k : Nat) : Int) = j
  · rw [if_pos hj]
  · rw [if_neg hj]; exact (filter_none (fun x hx e => by obtain ⟨k, hk, ek⟩ := hd x hx; exact hj ⟨k, hk, ek.symm.trans e⟩)).symm
theorem sorted_is {d Z : List α} {ks : List Nat} (h : ks.Pairwise (· < ·)) (hd : ∀ x ∈ d, ∃ k ∈ ks, κ x = ((k : Nat) : Int)) (s : Srt κ Z) (b : Stb κ d Z) : Z = byKey κ d ks :=
  srt_unique s (byKey_srt d ks h) (fun k => (byKey_stb d ks h hd k).trans (b k).symm)
end

theorem symsL_mem {l : List Int} {x : Int} (h : x ∈ symsL l) : ∃ n : Nat, n < l.length ∧ x = (n : Int) ∧ rd l x ≠ 0 := by
  unfold symsL usedL at h; obtain ⟨y, hy, rfl⟩ := List.mem_map.1 h; obtain ⟨hy1, hy2⟩ := List.mem_filter.1 hy; obtain ⟨j, hj, rfl⟩ := List.mem_map.1 hy1; refine ⟨j, List.mem_range.1 hj, rfl, ?_⟩; unfold rd; rw [Int.toNat_natCast, List.getD_eq_getElem?_getD]; exact of_decide_eq_true hy2
theorem symsL_len (l : List Int) : (symsL l).length ≤ l.length := by unfold symsL; rw [List.length_map]; exact usedL_len l l.length
def symsS (l : List Int) : List Int := byKey (rd l) (symsL l) (List.range 16)
theorem rd_of_ok {l : List Int} (hl : ∀ x ∈ l, 0 ≤ x ∧ x ≤ 15) {n : Nat} (hn : n < l.length) : 0 ≤ rd l (n : Int) ∧ rd l (n : Int) ≤ 15 := by
  unfold rd; rw [Int.toNat_natCast, List.getD_eq_getElem?_getD, List.getElem?_eq_getElem hn]; exact hl _ (List.getElem_mem hn)
theorem symsL_keys {l : List Int} (hl : ∀ x ∈ l, 0 ≤ x ∧ x ≤ 15) : ∀ x ∈ symsL l, ∃ k ∈ List.range 16, rd l x = ((k : Nat) : Int) := fun x hx => by
  obtain ⟨n, hn, rfl, _⟩ := symsL_mem hx; obtain ⟨h1, h2⟩ := rd_of_ok hl hn; exact ⟨(rd l (n : Int)).toNat, List.mem_range.2 (by omega), by omega⟩
theorem range16_lt : (List.range 16).Pairwise (· < ·) := List.pairwise_lt_range
theorem cmp_ok (g3 gb go : Nat) (A : Option Addr) (c : Nat) (l : List Int) (W : World) (h3 : W.heap[g3]? = some (.cells #[.func (.func 72) #[] #[.pointer (some ⟨gb, 0, none⟩)]] 63 (0, 0))) (hb : W.heap[gb]? = some (.cells #[.slice A l.length c] 68 (0, 0))) (hc : (Kd.int .i64).C W A l.length l)
    (n3 : g3 ≠ go) (nb : gb ≠ go) (nA : ∀ ad, A = some ad → ad.block ≠ go) (hl : ∀ x ∈ l, 0 ≤ x ∧ x ≤ 15) : CmpOk (rd l) (fun x => ∃ n : Nat, n < l.length ∧ x = (n : Int)) g3 go W := fun W' hg x y hx hy => by
  obtain ⟨n, hn, rfl⟩ := hx; obtain ⟨m, hm, rfl⟩ := hy; have hk : KeepBut W W' go none := ⟨hg.size, fun i hi hne _ => hg.block i hi (fun e => hne (by injection e))⟩; refine (cmp_calls g3 gb A c l n m W' (blk_grown h3 hg (fun e => n3 (by injection e))) (blk_grown hb hg (fun e => nb (by injection e))) (Kd.C_keep (0 : Int) hc hk (fun ad e _ => nA ad e)) hn hm).mono ?_; rintro e w ⟨rfl, hd⟩; obtain ⟨a1, a2⟩ := rd_of_ok hl hn; obtain ⟨b1, b2⟩ := rd_of_ok hl hm; refine ⟨_, rfl, ?_, hd⟩; generalize rd l (n : Int) = u at a1 a2 ⊢; generalize rd l (m : Int) = v at b1 b2 ⊢; unfold wrap64
  omega
section
theorem ordered_all (l : List Int) (hl : ∀ x ∈ l, 0 ≤ x ∧ x ≤ 15) (hn : l.length ≤ 288) : OrderedAt l (symsL l) (symsS l) := by
  by_cases h1 : (symsL l).length ≤ 1
  · have e : symsL l = symsS l := sorted_is (κ := rd l) range16_lt (symsL_keys hl) (by
      match hh : symsL l, h1 with
      | [], _ => exact List.Pairwise.nil
      | [x], _ => exact List.pairwise_singleton _ _) (Stb.refl _)
    rw [← e]; exact ordered_one l (symsL l) h1
  intro W base gb v A c hO hB hC hA; obtain ⟨go, c0, ev, hgb, hgl, cells, hcells⟩ := Kd.R_form hO (by omega); subst ev
  have hne : gb ≠ go := fun e => by subst e; rw [hB] at hcells; injection hcells with h; injection h with _ h _; exact absurd h (by decide)
  have hA2 : ∀ ad, A = some ad → ad.block ≠ go := fun ad e => by have := hA ad e; omega
  have hgr := World.grownBy_alloc W (.cells #[.func (.func 72) #[] #[.pointer (some ⟨gb, 0, none⟩)]] 63 (0, 0)) (some go); have hbl := below_alloc (Below.refl W.heap.size W) (.cells #[.func (.func 72) #[] #[.pointer (some ⟨gb, 0, none⟩)]] 63 (0, 0))
  have hcmp : CmpOk (rd l) (fun x => ∃ n : Nat, n < l.length ∧ x = (n : Int)) W.heap.size go (W.alloc (.cells #[.func (.func 72) #[] #[.pointer (some ⟨gb, 0, none⟩)]] 63 (0, 0))) :=
    cmp_ok W.heap.size gb go A c l _ (blk_new W _) (blk_grown hB hgr (fun e => hne (by injection e))) (Kd.C_alloc hC _) (by omega) hne hA2 hl
  have HO := Ak (Kd.R_below hO hbl); have HG := Ak hgr; have HC := Ak hcmp; have HN := Ak (show (symsL l).length ≤ 1048576 by have := symsL_len l; omega); have HD := Ak (show ∀ x ∈ symsL l, ∃ n : Nat, n < l.length ∧ x = (n : Int) from fun x hx => by obtain ⟨n, h1, h2, _⟩ := symsL_mem hx; exact ⟨n, h1, h2⟩); have HK := Ak (symsL_keys hl); clear hO hB hC hA hcells hne hA2 hgr hbl hcmp hgb hgl h1 hn hl; go_enter Tryz.func71, Tryz.ntmps71
  go_wp2_with (go_at_call 89; refine (sortStable_calls (rd l) (fun x => ∃ n : Nat, n < l.length ∧ x = (n : Int)) W.heap.size go base (symsL l).length c0 (fun _ => True) (symsL l) _ HO.out HN.out HD.out HC.out (fun a m b => sym_ok (rd l) _ W.heap.size go base (symsL l).length c0 _ _ a m b rfl)).mono ?_; rintro e_ w3 ⟨rfl, ⟨Z, z1, z2, ho⟩, hg⟩)
  go_end0
  have ez := sorted_is (κ := rd l) range16_lt HK.out z1 z2; exact ⟨rfl, by unfold symsS; rw [← ez]; exact ho, grown_trans HG.out hg⟩
end
theorem huff_New_all (A : Option Addr) (c : Nat) (l : List Int) (w : World) (hr : (Kd.int .i64).C w A l.length l) (hok : checkS l ≠ 2 → (∀ x ∈ l, 0 ≤ x ∧ x ≤ 15) ∧ l.length ≤ 288) : Calls Tryz.prog 46 #[.slice A l.length c] w (NewPost l (symsS l) w) := by
  by_cases h : checkS l = 2
  · exact new_arg A c l (symsS l) w hr h
  exact new_ok A c l (symsS l) w hr h (ordered_all l (hok h).1 (hok h).2)
end Go.Proofs.YtgflkkjhckcipaaGreatDoor.Hu

-- YtgflkkjhckcipaaGreatDoorIf3
namespace Go.Proofs.YtgflkkjhckcipaaGreatDoor.Pr
open Go.RowKit Go.Shelf Go.Proofs.YtgflkkjhckcipaaGreatDoorW.PrintWords Go.Proofs.YtgflkkjhckcipaaGreatDoorW.PrintLast Go.Proofs.YtgflkkjhckcipaaGreatDoorW.PrintMore
set_option linter.unusedVariables false
set_option linter.unusedSimpArgs false

def tblCells (cl : List Int) (A : Option Addr) (n c : Nat) : Array Value := (cl.map (Value.int .i64) ++ [Value.slice A n c]).toArray
theorem tbl_cell {W : World} {g n c : Nat} {A : Option Addr} {cl : List Int} (h : W.heap[g]? = some (.cells (tblCells cl A n c) 136 (0, 0))) (hl : cl.length = 16) (i : Nat) (hi : i < 16) : W.cell? ⟨g, i, none⟩ = some (.int .i64 (rd cl (i : Int))) := by
  rw [blk_cell h]; unfold tblCells rd; rw [List.getElem?_toArray, List.getElem?_append_left (by simp; omega), List.getElem?_map, List.getD_eq_getElem?_getD, Int.toNat_natCast, List.getElem?_eq_getElem (show i < cl.length by omega)]
  rfl
theorem tbl_slice {W : World} {g n c : Nat} {A : Option Addr} {cl : List Int} (h : W.heap[g]? = some (.cells (tblCells cl A n c) 136 (0, 0))) (hl : cl.length = 16) : W.cell? ⟨g, 16, none⟩ = some (Value.slice A n c) := by
  rw [blk_cell h]; unfold tblCells; rw [List.getElem?_toArray, List.getElem?_append_right (by simp; omega)]
  simp [hl]
def TableAt (w : World) (g : Nat) (cl ss : List Int) : Prop := cl.length = 16 ∧ ∃ A c, w.heap[g]? = some (.cells (tblCells cl A ss.length c) 136 (0, 0)) ∧ Kd.C (Kd.int .i64) w A ss.length ss
def readL (k : Nat) (cl ss l : List Int) (m : Int) : Nat → Int → Int → Int → Int → Option (Int × Int × Int)
  | 0, _, _, _, _ => some (0, 0, 13)
  | d + 1, p, code, first, frm => (bits_Get.f k l m p 1).bind fun t => if t.2 = 0 then
      (if wrap64 (Go.bits .or .i64 (wrap64 (code * 2)) t.1 - wrap64 (first * 2)) < rd cl ((15 - d : Nat) : Int) then
        (if 0 ≤ wrap64 (wrap64 (frm + Go.bits .or .i64 (wrap64 (code * 2)) t.1) - wrap64 (first * 2)) then (if wrap64 (wrap64 (frm + Go.bits .or .i64 (wrap64 (code * 2)) t.1) - wrap64 (first * 2)) < (ss.length : Int) then some (rd ss (wrap64 (wrap64 (frm + Go.bits .or .i64 (wrap64 (code * 2)) t.1) - wrap64 (first * 2))), wrap64 (p + 1), 0) else none) else none)
      else if wrap64 (frm + rd cl ((15 - d : Nat) : Int)) = (ss.length : Int) then some (0, 0, 13)
      else readL k cl ss l m d (wrap64 (p + 1)) (Go.bits .or .i64 (wrap64 (code * 2)) t.1) (wrap64 (wrap64 (first * 2) + rd cl ((15 - d : Nat) : Int))) (wrap64 (frm + rd cl ((15 - d : Nat) : Int)))) else some (0, 0, 4)
def readF (k : Nat) (cl ss l : List Int) (m p : Int) : Option (Int × Int × Int) :=
  (bits_Check.f k l m).bind fun e => if e = 0 then (if p < 0 then some (0, 0, 2) else if p > m then some (0, 0, 2) else readL k cl ss l m 15 p 0 0 0) else some (0, 0, 2)
section
attribute [local go_sem] Oper.semAt_some
theorem table_Read.nil (A : Option Addr) (c : Nat) (l : List Int) (m p : Int) (w : World) : Calls Tryz.prog 63 #[.pointer none, .agg #[.slice A l.length c, .int .i64 m], .int .i64 p] w fun e w' => e = .returned (.tuple #[.int .i64 0, .int .i64 0, .int .i64 1]) ∧ Below w.heap.size w w' := by
  go_enter Tryz.func63, Tryz.ntmps63; go_wp2; go_ret3; exact ⟨rfl, below_alloc (Below.refl _ _) _⟩
theorem table_Read.calls (k g : Nat) (A : Option Addr) (c : Nat) (l : List Int) (m p : Int) (cl ss : List Int) (r1 r2 r3 : Int) (w : World) (hr : Kd.C (Kd.int .u8) w A l.length l) (hc : l.length ≤ c) (ht : TableAt w g cl ss) (h : readF k cl ss l m p = some (r1, r2, r3)) :
    Calls Tryz.prog 63 #[.pointer (some ⟨g, 0, none⟩), .agg #[.slice A l.length c, .int .i64 m], .int .i64 p] w fun e w' => e = .returned (.tuple #[.int .i64 r1, .int .i64 r2, .int .i64 r3]) ∧ Below w.heap.size w w' := by
  have HR := Ak hr; have HC := Ak hc; have HB := Ak (Below.refl w.heap.size w); obtain ⟨hcl, At, ct, htb, htc⟩ := ht; have HL := Ak hcl; have TB := Ak htb; have TC := Ak htc; clear hr hc hcl htb htc; unfold readF at h; obtain ⟨e, E1, h⟩ := Option.bind_eq_some_iff.mp h; have HE := Ak E1; clear E1
  by_cases he : e = 0
  rotate_left
  · rw [if_neg he] at h; have heb : (e == 0) = false := beq_eq_false_iff_ne.mpr he; have hec : (e != 0) = true := bne_iff_ne.mpr he; clear he
    injection h with h
    injection h with h1 h
    injection h with h2 h3
    subst h1 h2 h3; go_enter Tryz.func63, Tryz.ntmps63
    go_wp2_with (first | ((with_reducible refine gate_dst (N := 4) rfl ?_); refine box_event ?hg (N := 4) ?hd (cs := #[.slice A l.length c, .int .i64 m]) (t := 43) ?hr ?_; (case hd => rfl); (case hg => rfl); (case hr => (go_simp; done)); intro g4 hg w3 hbox hb; replace TB := Ak (blk_below TB.out hb); replace TC := Ak (Kd.C_below TC.out hb); replace B4 := Ak (hbox); replace G4 := Ak ((by rw [hg]; exact HB.out.size : w.heap.size ≤ g4)); replace HB := Ak (below_then HB.out HB.out.size hb); clear hg hbox hb; have hcg40 : w3.cell? ⟨g4, 0, none⟩ = some (.slice A l.length c) := (blk_cell B4.out 0).trans rfl; have hcg41 : w3.cell? ⟨g4, 1, none⟩ = some (.int .i64 m) := (blk_cell B4.out 1).trans rfl) | (go_at_call 42; refine (bits_Check.calls k A c l m e _ (Kd.C_below HR.out HB.out) HC.out HE.out).mono ?_; rintro e_ w4 ⟨rfl, hb⟩; replace HB := Ak (below_then HB.out HB.out.size hb); replace B4 := Ak (blk_below B4.out hb); replace TB := Ak (blk_below TB.out hb); replace TC := Ak (Kd.C_below TC.out hb); clear hb; clear hcg40 hcg41; have hcg40 : w4.cell? ⟨g4, 0, none⟩ = some (.slice A l.length c) := (blk_cell B4.out 0).trans rfl; have hcg41 : w4.cell? ⟨g4, 1, none⟩ = some (.int .i64 m) := (blk_cell B4.out 1).trans rfl))
    go_ret3; exact ⟨rfl, by repeat ((with_reducible exact HB.out))⟩
  rw [if_pos he] at h; subst he
  by_cases s0 : p < 0
  · rw [if_pos s0] at h; have s0b : decide (p < 0) = true := decide_eq_true s0; replace s0 := eq_true s0
    injection h with h
    injection h with h1 h
    injection h with h2 h3
    subst h1 h2 h3; go_enter Tryz.func63, Tryz.ntmps63
    go_wp2_with (first | ((with_reducible refine gate_dst (N := 4) rfl ?_); refine box_event ?hg (N := 4) ?hd (cs := #[.slice A l.length c, .int .i64 m]) (t := 43) ?hr ?_; (case hd => rfl); (case hg => rfl); (case hr => (go_simp; done)); intro g4 hg w3 hbox hb; replace TB := Ak (blk_below TB.out hb); replace TC := Ak (Kd.C_below TC.out hb); replace B4 := Ak (hbox); replace G4 := Ak ((by rw [hg]; exact HB.out.size : w.heap.size ≤ g4)); replace HB := Ak (below_then HB.out HB.out.size hb); clear hg hbox hb; have hcg40 : w3.cell? ⟨g4, 0, none⟩ = some (.slice A l.length c) := (blk_cell B4.out 0).trans rfl; have hcg41 : w3.cell? ⟨g4, 1, none⟩ = some (.int .i64 m) := (blk_cell B4.out 1).trans rfl) | (go_at_call 42; refine (bits_Check.calls k A c l m 0 _ (Kd.C_below HR.out HB.out) HC.out HE.out).mono ?_; rintro e_ w4 ⟨rfl, hb⟩; replace HB := Ak (below_then HB.out HB.out.size hb); replace B4 := Ak (blk_below B4.out hb); replace TB := Ak (blk_below TB.out hb); replace TC := Ak (Kd.C_below TC.out hb); clear hb; clear hcg40 hcg41; have hcg40 : w4.cell? ⟨g4, 0, none⟩ = some (.slice A l.length c) := (blk_cell B4.out 0).trans rfl; have hcg41 : w4.cell? ⟨g4, 1, none⟩ = some (.int .i64 m) := (blk_cell B4.out 1).trans rfl))
    go_ret3; exact ⟨rfl, by repeat ((with_reducible exact HB.out))⟩
  rw [if_neg s0] at h; have s0b : decide (p < 0) = false := decide_eq_false s0
  by_cases s1 : p > m
  · rw [if_pos s1] at h; have s1b : decide (m < p) = true := decide_eq_true s1; have s1c := eq_true (show m < p from s1); replace s0 := eq_false s0; clear s1
    injection h with h
    injection h with h1 h
    injection h with h2 h3
    subst h1 h2 h3; go_enter Tryz.func63, Tryz.ntmps63
    go_wp2_with (first | ((with_reducible refine gate_dst (N := 4) rfl ?_); refine box_event ?hg (N := 4) ?hd (cs := #[.slice A l.length c, .int .i64 m]) (t := 43) ?hr ?_; (case hd => rfl); (case hg => rfl); (case hr => (go_simp; done)); intro g4 hg w3 hbox hb; replace TB := Ak (blk_below TB.out hb); replace TC := Ak (Kd.C_below TC.out hb); replace B4 := Ak (hbox); replace G4 := Ak ((by rw [hg]; exact HB.out.size : w.heap.size ≤ g4)); replace HB := Ak (below_then HB.out HB.out.size hb); clear hg hbox hb; have hcg40 : w3.cell? ⟨g4, 0, none⟩ = some (.slice A l.length c) := (blk_cell B4.out 0).trans rfl; have hcg41 : w3.cell? ⟨g4, 1, none⟩ = some (.int .i64 m) := (blk_cell B4.out 1).trans rfl) | (go_at_call 42; refine (bits_Check.calls k A c l m 0 _ (Kd.C_below HR.out HB.out) HC.out HE.out).mono ?_; rintro e_ w4 ⟨rfl, hb⟩; replace HB := Ak (below_then HB.out HB.out.size hb); replace B4 := Ak (blk_below B4.out hb); replace TB := Ak (blk_below TB.out hb); replace TC := Ak (Kd.C_below TC.out hb); clear hb; clear hcg40 hcg41; have hcg40 : w4.cell? ⟨g4, 0, none⟩ = some (.slice A l.length c) := (blk_cell B4.out 0).trans rfl; have hcg41 : w4.cell? ⟨g4, 1, none⟩ = some (.int .i64 m) := (blk_cell B4.out 1).trans rfl))
    go_ret3; exact ⟨rfl, by repeat ((with_reducible exact HB.out))⟩
  rw [if_neg s1] at h; have s1b : decide (m < p) = false := decide_eq_false s1; have s1c := eq_false (show ¬ m < p from s1); replace s0 := eq_false s0; have H' := Ak h; clear h s1; go_enter Tryz.func63, Tryz.ntmps63
  go_wp2_with (first | ((with_reducible refine gate_dst (N := 4) rfl ?_); refine box_event ?hg (N := 4) ?hd (cs := #[.slice A l.length c, .int .i64 m]) (t := 43) ?hr ?_; (case hd => rfl); (case hg => rfl); (case hr => (go_simp; done)); intro g4 hg w3 hbox hb; replace TB := Ak (blk_below TB.out hb); replace TC := Ak (Kd.C_below TC.out hb); replace B4 := Ak (hbox); replace G4 := Ak ((by rw [hg]; exact HB.out.size : w.heap.size ≤ g4)); replace HB := Ak (below_then HB.out HB.out.size hb); clear hg hbox hb; have hcg40 : w3.cell? ⟨g4, 0, none⟩ = some (.slice A l.length c) := (blk_cell B4.out 0).trans rfl; have hcg41 : w3.cell? ⟨g4, 1, none⟩ = some (.int .i64 m) := (blk_cell B4.out 1).trans rfl) | (go_at_call 42; refine (bits_Check.calls k A c l m 0 _ (Kd.C_below HR.out HB.out) HC.out HE.out).mono ?_; rintro e_ w4 ⟨rfl, hb⟩; replace HB := Ak (below_then HB.out HB.out.size hb); replace B4 := Ak (blk_below B4.out hb); replace TB := Ak (blk_below TB.out hb); replace TC := Ak (Kd.C_below TC.out hb); clear hb; clear hcg40 hcg41; have hcg40 : w4.cell? ⟨g4, 0, none⟩ = some (.slice A l.length c) := (blk_cell B4.out 0).trans rfl; have hcg41 : w4.cell? ⟨g4, 1, none⟩ = some (.int .i64 m) := (blk_cell B4.out 1).trans rfl))
  clear s0 s0b s1b s1c hcg40 hcg41
  go_loopw [2, 9, 10, 11, 12] (fun x2 x9 x10 x11 x12 w' => ∃ (d : Nat) (p2 code fst frm : Int), d ≤ 15 ∧ x2 = .int .i64 p2 ∧ x9 = .int .i64 code ∧ x10 = .int .i64 fst ∧ x11 = .int .i64 frm ∧ x12 = .int .i64 ((16 - d : Nat) : Int) ∧ Aside0 (readL k cl ss l m d p2 code fst frm = some (r1, r2, r3)) ∧ Aside0 (w'.heap[g4]? = some (.cells #[.slice A l.length c, .int .i64 m] 43 (0, 0))) ∧ Aside0 (w'.heap[g]? = some (.cells (tblCells cl At ss.length ct) 136 (0, 0))) ∧ Aside0 (Kd.C (Kd.int .i64) w' At ss.length ss) ∧ Aside0 (Below w.heap.size w w'))
    (fun _ _ _ _ x12 _ => 16 - (intOf x12).toNat)
  case atStart => exact ⟨15, p, 0, 0, 0, by omega, rfl, rfl, rfl, rfl, rfl, H', B4, TB, TC, HB⟩
  case round =>
    clear H' B4 TB TC HB; obtain ⟨d, p2, code, fst, frm, hd, rfl, rfl, rfl, rfl, rfl, H, B4, TB, TC, HB⟩ := hrel
    cases d with
    | zero =>
      simp only [readL] at H; have H1 := H.out
      injection H1 with h
      injection h with h1 h
      injection h with h2 h3
      subst h1 h2 h3; have q := eq_false (show ¬ ((16 - 0 : Nat) : Int) ≤ 15 by omega); clear H; go_wp2; go_ret3; exact ⟨rfl, HB.out⟩
    | succ d => ?_
    obtain ⟨lm, hlm⟩ : ∃ lm : Nat, 16 - (d + 1) = lm := ⟨_, rfl⟩
    have hlm2 : 15 - d = lm := by omega
    rw [hlm]; have H1 := H.out; simp only [readL, hlm2] at H1; clear H; have q := eq_true (show (lm : Int) ≤ 15 by omega); have q0 := eq_true (show (0 : Int) ≤ (lm : Int) by omega); have q1 := eq_true (show (lm : Int) < 16 by omega); have q2 := eq_true (show lm < 16 by omega); have q3 := eq_true (show lm ≤ 15 by omega); have LM := Ak (show lm < 16 by omega); obtain ⟨⟨bit, er⟩, E2, H1⟩ := Option.bind_eq_some_iff.mp H1; have HG := Ak E2; clear E2; dsimp only at H1; obtain ⟨nn, hnn⟩ : ∃ z, rd cl (lm : Int) = z := ⟨_, rfl⟩; rw [hnn] at H1; have NN := Ak hnn; clear hnn; have hcg40 : wr.cell? ⟨g4, 0, none⟩ = some (.slice A l.length c) := (blk_cell B4.out 0).trans rfl; have hcg41 : wr.cell? ⟨g4, 1, none⟩ = some (.int .i64 m) := (blk_cell B4.out 1).trans rfl
    by_cases her : er = 0
    rotate_left
    · rw [if_neg her] at H1
      injection H1 with h
      injection h with h1 h
      injection h with h2 h3
      subst h1 h2 h3; have heb : (er == 0) = false := beq_eq_false_iff_ne.mpr her; have hec : (er != 0) = true := bne_iff_ne.mpr her; clear her
      go_wp2_with ((go_at_call 30; refine (bits_Get.calls k A c l m p2 1 bit er _ (Kd.C_below HR.out HB.out) HC.out HG.out).mono ?_; rintro e_ w5 ⟨rfl, hb⟩; replace HB := Ak (below_then HB.out HB.out.size hb); replace B4 := Ak (blk_below B4.out hb); replace TB := Ak (blk_below TB.out hb); replace TC := Ak (Kd.C_below TC.out hb); clear hb; clear hcg40 hcg41; have hcg40 : w5.cell? ⟨g4, 0, none⟩ = some (.slice A l.length c) := (blk_cell B4.out 0).trans rfl; have hcg41 : w5.cell? ⟨g4, 1, none⟩ = some (.int .i64 m) := (blk_cell B4.out 1).trans rfl; have htl := tbl_cell TB.out HL.out lm LM.out; rw [NN.out] at htl; have hts := tbl_slice TB.out HL.out))
      go_ret3; exact ⟨rfl, HB.out⟩
    rw [if_pos her] at H1; subst her; obtain ⟨f2, hf2⟩ : ∃ z, wrap64 (fst * 2) = z := ⟨_, rfl⟩; obtain ⟨c2, hc2⟩ : ∃ z, Go.bits .or .i64 (wrap64 (code * 2)) bit = z := ⟨_, rfl⟩; obtain ⟨dd, hdd⟩ : ∃ z, wrap64 (c2 - f2) = z := ⟨_, rfl⟩; obtain ⟨fr2, hfr⟩ : ∃ z, wrap64 (frm + nn) = z := ⟨_, rfl⟩; obtain ⟨p3, hp3⟩ : ∃ z, wrap64 (p2 + 1) = z := ⟨_, rfl⟩; rw [hc2, hf2, hdd, hfr, hp3] at H1
    by_cases t1 : dd < nn
    · rw [if_pos t1] at H1; obtain ⟨ix, hix⟩ : ∃ z, wrap64 (wrap64 (frm + c2) - f2) = z := ⟨_, rfl⟩; rw [hix] at H1
      by_cases x0 : 0 ≤ ix
      rotate_left
      · rw [if_neg x0] at H1; cases H1
      rw [if_pos x0] at H1
      by_cases x1 : ix < (ss.length : Int)
      · rw [if_pos x1] at H1
        injection H1 with h
        injection h with h1 h
        injection h with h2 h3
        subst h1 h2 h3; obtain ⟨ad, rfl, hx⟩ := Kd.at_int TC.out ix (by omega) (by omega); have HX := Ak hx; clear hx; have t1b : decide (dd < nn) = true := decide_eq_true t1; replace t1 := eq_true t1; replace x0 := eq_true x0; replace x1 := eq_true x1
        go_wp2_with ((go_at_call 30; refine (bits_Get.calls k A c l m p2 1 bit 0 _ (Kd.C_below HR.out HB.out) HC.out HG.out).mono ?_; rintro e_ w5 ⟨rfl, hb⟩; replace HB := Ak (below_then HB.out HB.out.size hb); replace B4 := Ak (blk_below B4.out hb); replace TB := Ak (blk_below TB.out hb); replace TC := Ak (Kd.C_below TC.out hb); replace HX := Ak (pw_cell_below hb HX.out); clear hb; clear hcg40 hcg41; have hcg40 : w5.cell? ⟨g4, 0, none⟩ = some (.slice A l.length c) := (blk_cell B4.out 0).trans rfl; have hcg41 : w5.cell? ⟨g4, 1, none⟩ = some (.int .i64 m) := (blk_cell B4.out 1).trans rfl; have htl := tbl_cell TB.out HL.out lm LM.out; rw [NN.out] at htl; have hts := tbl_slice TB.out HL.out; have hxs := HX.out))
        go_ret3; exact ⟨by rw [← hp3]; rfl, HB.out⟩
      rw [if_neg x1] at H1; cases H1
    rw [if_neg t1] at H1; have t1b : decide (dd < nn) = false := decide_eq_false t1; replace t1 := eq_false t1
    by_cases t2 : fr2 = (ss.length : Int)
    · rw [if_pos t2] at H1
      injection H1 with h
      injection h with h1 h
      injection h with h2 h3
      subst h1 h2 h3; have t2b : (fr2 == (ss.length : Int)) = true := beq_iff_eq.mpr t2; replace t2 := eq_true t2
      go_wp2_with ((go_at_call 30; refine (bits_Get.calls k A c l m p2 1 bit 0 _ (Kd.C_below HR.out HB.out) HC.out HG.out).mono ?_; rintro e_ w5 ⟨rfl, hb⟩; replace HB := Ak (below_then HB.out HB.out.size hb); replace B4 := Ak (blk_below B4.out hb); replace TB := Ak (blk_below TB.out hb); replace TC := Ak (Kd.C_below TC.out hb); clear hb; clear hcg40 hcg41; have hcg40 : w5.cell? ⟨g4, 0, none⟩ = some (.slice A l.length c) := (blk_cell B4.out 0).trans rfl; have hcg41 : w5.cell? ⟨g4, 1, none⟩ = some (.int .i64 m) := (blk_cell B4.out 1).trans rfl; have htl := tbl_cell TB.out HL.out lm LM.out; rw [NN.out] at htl; have hts := tbl_slice TB.out HL.out))
      go_ret3; exact ⟨rfl, HB.out⟩
    rw [if_neg t2] at H1; have t2b : (fr2 == (ss.length : Int)) = false := beq_eq_false_iff_ne.mpr t2; replace t2 := eq_false t2; have H2 := Ak H1; clear H1
    go_wp2_with ((go_at_call 30; refine (bits_Get.calls k A c l m p2 1 bit 0 _ (Kd.C_below HR.out HB.out) HC.out HG.out).mono ?_; rintro e_ w5 ⟨rfl, hb⟩; replace HB := Ak (below_then HB.out HB.out.size hb); replace B4 := Ak (blk_below B4.out hb); replace TB := Ak (blk_below TB.out hb); replace TC := Ak (Kd.C_below TC.out hb); clear hb; clear hcg40 hcg41; have hcg40 : w5.cell? ⟨g4, 0, none⟩ = some (.slice A l.length c) := (blk_cell B4.out 0).trans rfl; have hcg41 : w5.cell? ⟨g4, 1, none⟩ = some (.int .i64 m) := (blk_cell B4.out 1).trans rfl; have htl := tbl_cell TB.out HL.out lm LM.out; rw [NN.out] at htl; have hts := tbl_slice TB.out HL.out))
    go_roundw
    case rel => exact ⟨d, p3, c2, wrap64 (f2 + nn), fr2, by omega, by (simp [*]; done), by rfl, by rfl, by (simp [*]; done), by (congr 1; omega), H2, B4, TB, TC, HB⟩
    case measure => simp [intOf]; omega
end
end Go.Proofs.YtgflkkjhckcipaaGreatDoor.Pr

