-- Texts by hand and by programs of this session, joined (wip/tool/merge.py).
import Derived.RangeFuncNested
import Derived.RangeFuncBound
import Derived.RangeFuncCalls
import Derived.RangeFuncLeaves
import Derived.RangeFuncBox
import Derived.Shelf.Abstract
import Derived.Shelf.RegionOpen
import Derived.OwnWalkIn
import Derived.TacticsInMore
import Derived.LoopNIn
import Derived.LoopIn
import Derived.Test.YtdgpcjhincgijaaMLT4
import Derived.Test.YtdgpcjhincgijaaMLT6
-- YtdgpcjhincgijaaLs4
namespace Go.Proofs.Ytdgpcjhincgijaa.Pr
open Go.RowKit Go.Shelf Go.Proofs.YtdgpcjhincgijaaW.PrintWords Go.Proofs.YtdgpcjhincgijaaW.PrintLast Go.Proofs.YtdgpcjhincgijaaW.PrintMore
set_option linter.unusedVariables false
set_option linter.unusedSimpArgs false
section
attribute [local go_sem] Oper.semAt_some
set_option maxHeartbeats 16000000 in
set_option maxRecDepth 100000 in
theorem sym_main1 (κ : G44 → Int) (Dm : G44 → Prop) (g3 go base len cap a m b mid p s0 r0 n0 ll lr sab : Nat) (ok : Nat → Prop) (P L R S d : List G44) (W0 : World) (hR : Kd.R kG 44 W0 base ok (.slice (some ⟨go, 0, none⟩) len cap) d)
    (bsab : sab ≤ 4503599627370496) (hsab : a + b = sab) (hmid : sab / 2 = mid) (bmid : mid ≤ 4503599627370496) (hn0 : mid + m = n0) (bn0 : n0 ≤ 4503599627370496) (hp : 1 + p = n0) (hll : a + ll = m) (hlr : m + lr = b) (bm : m ≤ 4503599627370496) (bb : b ≤ 4503599627370496) (hl1 : ll ≠ 1) (hr1 : lr ≠ 1)
    (hc : mid < m ∧ b + s0 = n0 ∧ r0 = mid) (HN : Aside0 (a = P.length ∧ a < m ∧ m < b ∧ mid < b ∧ a < mid ∧ b ≤ len ∧ len ≤ 1048576 ∧ mid + m = n0 ∧ 1 + p = n0 ∧ n0 ≤ 4503599627370496 ∧ r0 ≤ m ∧ p ≤ 4503599627370496))
    (ST : Aside0 (Bs3 κ z44 d p s0 r0 s0 r0))
    (HB : Aside0 (∀ i j c : Nat, Bs3 κ z44 d p s0 r0 i j → i < j → c = (i + j) / 2 → i ≤ c ∧ c < j ∧ c ≤ p ∧ m ≤ p - c ∧ p - c < b ∧ a ≤ c ∧ c < b))
    (DD : Aside0 (∀ k, a ≤ k → k < b → Dm (d.getD k z44)))
    (TAIL : Aside0 (∀ st en : Nat, en = mid + m - st → Bs3 κ z44 d p s0 r0 st st → ∃ L1 L2 R1 R2 : List G44, (a ≤ st ∧ st ≤ m ∧ m ≤ en ∧ en ≤ b ∧ st + en = mid + m) ∧ d = P ++ L1 ++ L2 ++ R1 ++ (R2 ++ S) ∧ (L1.length = st - a ∧ L2.length = m - st ∧ R1.length = en - m ∧ R2.length = b - en) ∧ (Srt κ L1 ∧ Srt κ L2 ∧ Srt κ R1 ∧ Srt κ R2) ∧ ((∀ x ∈ L1, Dm x) ∧ (∀ x ∈ L2, Dm x) ∧ (∀ x ∈ R1, Dm x) ∧ (∀ x ∈ R2, Dm x)) ∧
      (∀ Z1 Z2, Srt κ Z1 → Stb κ (L1 ++ R1) Z1 → Srt κ Z2 → Stb κ (L2 ++ R2) Z2 → Srt κ (Z1 ++ Z2) ∧ Stb κ (L ++ R) (Z1 ++ Z2))))
    (HC : Aside0 (CmpOk κ Dm g3 go W0)) (HIH : Aside0 (∀ a' m' b' : Nat, b' - a' < b - a → SymOk κ Dm g3 go base len cap ok a' m' b')) :
    Calls Try.prog 43 #[.slice (some ⟨go, 0, none⟩) len cap, .int .i64 (a : Int), .int .i64 (m : Int), .int .i64 (b : Int), .func (.func 34) #[] #[]] W0 fun e W' => e = .returned (.tuple #[]) ∧ (∃ Z, Srt κ Z ∧ Stb κ (L ++ R) Z ∧ Kd.R kG 44 W' base ok (.slice (some ⟨go, 0, none⟩) len cap) (P ++ Z ++ S)) ∧ W0.grownBy W' (some go) := by
  have HO := Aside0.mk hR
  have HG := Aside0.mk (World.grownBy.refl W0 (some go))
  clear hR
  have wl1 : ((ll : Int) == 1) = false := beq_eq_false_iff_ne.mpr (by omega)
  have wl2 := eq_false (show ¬ (ll : Int) = 1 by omega)
  have wl3 := eq_false (show ¬ ll = 1 by omega)
  have wr1 : ((lr : Int) == 1) = false := beq_eq_false_iff_ne.mpr (by omega)
  have wr2 := eq_false (show ¬ (lr : Int) = 1 by omega)
  have wr3 := eq_false (show ¬ lr = 1 by omega)
  obtain ⟨c1, hs0, c3⟩ := hc
  have q1 := eq_true (show (mid : Int) < (m : Int) by omega)
  have q2 := eq_true c1
  have c3s := c3.symm
  subst c3s
  have ws1 : wrap64 ((n0 : Int) - (b : Int)) = (s0 : Int) := wsub hs0 bn0
  have ws2 : IntKind.i64.wrap ((n0 : Int) - (b : Int)) = (s0 : Int) := (i64_w _).trans ws1
  have HMM := Aside0.mk c1
  have wm : wrap64 ((m : Int) - (a : Int)) = (ll : Int) := wsub hll bm
  have wmq : IntKind.i64.wrap ((m : Int) - (a : Int)) = (ll : Int) := (i64_w _).trans wm
  have wb : wrap64 ((b : Int) - (m : Int)) = (lr : Int) := wsub hlr bb
  have wbq : IntKind.i64.wrap ((b : Int) - (m : Int)) = (lr : Int) := (i64_w _).trans wb
  have wh1 : wrap64 ((a : Int) + (b : Int)) = (sab : Int) := wadd hsab bsab
  have wh2 : IntKind.i64.wrap ((a : Int) + (b : Int)) = (sab : Int) := (i64_w _).trans wh1
  have wh3 : IntKind.u64.wrap (sab : Int) = (sab : Int) := u64_small bsab
  have wh4 : IntKind.i64.wrap (mid : Int) = (mid : Int) := i64_small bmid
  have wh5 : (sab : Int) / 2 = (mid : Int) := half_z hmid
  have wn1 : wrap64 ((mid : Int) + (m : Int)) = (n0 : Int) := wadd hn0 bn0
  have wn2 : IntKind.i64.wrap ((mid : Int) + (m : Int)) = (n0 : Int) := (i64_w _).trans wn1
  have wp1 : wrap64 ((n0 : Int) - 1) = (p : Int) := wsub (x := n0) (y := 1) hp bn0
  have wp2 : IntKind.i64.wrap ((n0 : Int) - 1) = (p : Int) := (i64_w _).trans wp1
  clear hll hlr hsab hmid hn0 hp bsab bmid bn0 bm bb hl1 hr1 c1 hs0
  go_enter Try.func43, Try.ntmps43
  go_wp2
  go_loopw [20, 21] (fun v10 v11 w' => ∃ (i j : Nat), v10 = .int .i64 (i : Int) ∧ v11 = .int .i64 (j : Int) ∧ Aside0 (Kd.R kG 44 w' base ok (.slice (some ⟨go, 0, none⟩) len cap) d) ∧ Aside0 (W0.grownBy w' (some go)) ∧ Aside0 (Bs3 κ z44 d p s0 mid i j))
    (fun v10 v11 _ => (intOf v11).toNat - (intOf v10).toNat)
  case atStart => exact ⟨s0, mid, rfl, rfl, HO, HG, ST⟩
  case round =>
    clear HO HG ST wl1 wl2 wl3 wr1 wr2 wr3 wm wmq wb wbq wh1 wh2 wh3 wh4 wh5 wn1 wn2 wp1 wp2 q1 q2 ws1 ws2
    obtain ⟨i, j, rfl, rfl, HO, HG, ST⟩ := hrel
    have hn := HN.out
    have hij0 := ST.out.2.1
    by_cases hij : i < j
    · have q0 := eq_true (show (i : Int) < (j : Int) by omega)
      have q00 := eq_true hij
      have hjb := ST.out.2.2.1
      obtain ⟨sj, hsj⟩ : ∃ sj, i + j = sj := ⟨_, rfl⟩
      have bsj : sj ≤ 4503599627370496 := by omega
      obtain ⟨hh, hhh⟩ : ∃ hh, sj / 2 = hh := ⟨_, rfl⟩
      have bhh : hh ≤ 4503599627370496 := by omega
      obtain ⟨h1, h2, k1, k2, k3, k4, k5⟩ := HB.out i j hh ST.out hij (by rw [hsj, hhh])
      obtain ⟨pc, hpc⟩ : ∃ pc, hh + pc = p := ⟨p - hh, by omega⟩
      have hpc2 : p - hh = pc := by omega
      rw [hpc2] at k2 k3
      obtain ⟨lenle, len52, bp⟩ : b ≤ len ∧ len ≤ 1048576 ∧ p ≤ 4503599627370496 := ⟨hn.2.2.2.2.2.1, hn.2.2.2.2.2.2.1, hn.2.2.2.2.2.2.2.2.2.2.2⟩
      obtain ⟨h3, hh3⟩ : ∃ h3, hh + 1 = h3 := ⟨_, rfl⟩
      have bh3 : h3 ≤ 4503599627370496 := by omega
      have phh := eq_true (show (0 : Int) ≤ (hh : Int) by omega)
      have phh1 := eq_true (show (hh : Int) < (len : Int) by omega)
      have phh2 := eq_true (show hh < len by omega)
      have Lhh := Aside0.mk (show hh < len by omega)
      have ppc := eq_true (show (0 : Int) ≤ (pc : Int) by omega)
      have ppc1 := eq_true (show (pc : Int) < (len : Int) by omega)
      have ppc2 := eq_true (show pc < len by omega)
      have Lpc := Aside0.mk (show pc < len by omega)
      obtain ⟨y, hy⟩ : ∃ y, d.getD hh z44 = y := ⟨_, rfl⟩
      obtain ⟨x, hx⟩ : ∃ x, d.getD pc z44 = x := ⟨_, rfl⟩
      have DY := Aside0.mk (show Dm y from hy ▸ DD.out hh k4 k5)
      have DX := Aside0.mk (show Dm x from hx ▸ DD.out pc (by omega) k3)
      have Rhh := Aside0.mk (show rd_T44 d (hh : Int) = y from hy)
      have Rpc := Aside0.mk (show rd_T44 d (pc : Int) = x from hx)
      have SLO := Aside0.mk (fun h : ¬ κ x < κ y => (show Bs3 κ z44 d p s0 mid h3 j from hh3 ▸ ST.out.lo h1 h2 (by rw [hpc2, hy, hx]; exact h)))
      have SHI := Aside0.mk (fun h : κ x < κ y => ST.out.hi h1 h2 (by rw [hpc2, hy, hx]; exact h))
      have MS := Aside0.mk (show j - h3 < j - i ∧ hh - i < j - i by omega)
      have wpc : wrap64 ((p : Int) - (hh : Int)) = (pc : Int) := wsub hpc bp
      have wpcq : IntKind.i64.wrap ((p : Int) - (hh : Int)) = (pc : Int) := (i64_w _).trans wpc
      have wh1 : wrap64 ((i : Int) + (j : Int)) = (sj : Int) := wadd hsj bsj
      have wh2 : IntKind.i64.wrap ((i : Int) + (j : Int)) = (sj : Int) := (i64_w _).trans wh1
      have wh3 : IntKind.u64.wrap (sj : Int) = (sj : Int) := u64_small bsj
      have wh4 : IntKind.i64.wrap (hh : Int) = (hh : Int) := i64_small bhh
      have wh5 : (sj : Int) / 2 = (hh : Int) := half_z hhh
      have wh3 : wrap64 ((hh : Int) + 1) = (h3 : Int) := wadd (x := hh) (y := 1) hh3 bh3
      have wh3q : IntKind.i64.wrap ((hh : Int) + 1) = (h3 : Int) := (i64_w _).trans wh3
      clear hn hij0 hjb hsj hhh bsj bhh hh3 bh3 h1 h2 k1 k2 k3 k4 k5 hpc hpc2 lenle len52 bp hy hx hij
      go_wp2
      have hu44 := Try.underlying44
      have n0 := Aside0.mk (Kd.R_drew HO.out)
      have n1 := Aside0.mk (grown_drew HG.out)
      clear HO HG
      have HO := n0
      have HG := n1
      clear n0 n1
      have HXA := Aside0.mk (show wr.drew.cell? ⟨go, pc * 2, none⟩ = some (.int .i64 x.f0) from by have h := (row_at HO.out pc Lpc.out).1.1; rwa [Rpc.out] at h)
      have HXAb := Aside0.mk (show wr.drew.cell? ⟨go, pc * 2 + 1, none⟩ = some (.slice x.A x.n x.c) from by have h := (row_at HO.out pc Lpc.out).1.2; rwa [Rpc.out] at h)
      have HXB := Aside0.mk (show wr.drew.cell? ⟨go, hh * 2, none⟩ = some (.int .i64 y.f0) from by have h := (row_at HO.out hh Lhh.out).1.1; rwa [Rhh.out] at h)
      have HXBb := Aside0.mk (show wr.drew.cell? ⟨go, hh * 2 + 1, none⟩ = some (.slice y.A y.n y.c) from by have h := (row_at HO.out hh Lhh.out).1.2; rwa [Rhh.out] at h)
      refine start_ (n := 14) (S := fun w' => w'.cell? ⟨go, pc * 2, none⟩ = some (.int .i64 x.f0) ∧ w'.cell? ⟨go, pc * 2 + 1, none⟩ = some (.slice x.A x.n x.c) ∧ w'.cell? ⟨go, hh * 2, none⟩ = some (.int .i64 y.f0) ∧ w'.cell? ⟨go, hh * 2 + 1, none⟩ = some (.slice y.A y.n y.c)) (ds := []) #[false, false, false, false, false, false, false, false, false, false, false, false, false, false] (by kernel_rfl) rfl rfl ⟨HXA.out, HXAb.out, HXB.out, HXBb.out⟩ (fun hHeld => ?_)
      generalize wr.drew = wd at HO HG HXA HXAb HXB HXBb hHeld ⊢
      refine pure_ (i := 0) (N := some 158) (v := ?_) (a' := ?_) #[true, false, false, false, false, false, false, false, false, false, false, false, false, false] rfl rfl (by kernel_rfl) (fun _ _ _ h => h) (Or.inl ⟨by rfl, ?_⟩) ?_ ?_
      rotate_left
      · intro w'
        go_simp
        with_reducible rfl
      rotate_left
      · simp only [Act.put, List.setIfInBounds_toArray, List.set_cons_zero, List.set_cons_succ, i64_w, i32_w, u8_w]
        rfl
      refine pure_ (i := 1) (N := some 159) (v := ?_) (a' := ?_) #[true, true, false, false, false, false, false, false, false, false, false, false, false, false] rfl rfl (by kernel_rfl) (fun _ _ _ h => h) (Or.inl ⟨by rfl, ?_⟩) ?_ ?_
      rotate_left
      · intro w'
        go_simp
        with_reducible rfl
      rotate_left
      · simp only [Act.put, List.setIfInBounds_toArray, List.set_cons_zero, List.set_cons_succ, i64_w, i32_w, u8_w]
        rfl
      refine pure_ (i := 2) (N := some 160) (v := ?_) (a' := ?_) #[true, true, true, false, false, false, false, false, false, false, false, false, false, false] rfl rfl (by kernel_rfl) (fun _ _ _ h => h) (Or.inl ⟨by rfl, ?_⟩) ?_ ?_
      rotate_left
      · intro w'
        go_simp
        with_reducible rfl
      rotate_left
      · simp only [Act.put, List.setIfInBounds_toArray, List.set_cons_zero, List.set_cons_succ, i64_w, i32_w, u8_w]
        rfl
      refine pure_ (i := 3) (N := some 161) (v := ?_) (a' := ?_) #[true, true, true, true, false, false, false, false, false, false, false, false, false, false] rfl rfl (by kernel_rfl) (fun _ _ _ h => h) (Or.inl ⟨by rfl, ?_⟩) ?_ ?_
      rotate_left
      · intro w'
        go_simp
        with_reducible rfl
      rotate_left
      · simp only [Act.put, List.setIfInBounds_toArray, List.set_cons_zero, List.set_cons_succ, i64_w, i32_w, u8_w]
        rfl
      refine pure_ (i := 4) (N := some 162) (v := ?_) (a' := ?_) #[true, true, true, true, true, false, false, false, false, false, false, false, false, false] rfl rfl (by kernel_rfl) (fun _ _ _ h => h) (Or.inl ⟨by rfl, ?_⟩) ?_ ?_
      rotate_left
      · intro w'
        go_simp
        with_reducible rfl
      rotate_left
      · simp only [Act.put, List.setIfInBounds_toArray, List.set_cons_zero, List.set_cons_succ, i64_w, i32_w, u8_w]
        rfl
      refine pure_ (i := 5) (N := some 163) (v := ?_) (a' := ?_) #[true, true, true, true, true, true, false, false, false, false, false, false, false, false] rfl rfl (by kernel_rfl) (fun _ _ _ h => h) (Or.inl ⟨by rfl, ?_⟩) ?_ ?_
      rotate_left
      · intro w'
        go_simp
        with_reducible rfl
      rotate_left
      · simp only [Act.put, List.setIfInBounds_toArray, List.set_cons_zero, List.set_cons_succ, i64_w, i32_w, u8_w]
        rfl
      refine pure_ (i := 7) (N := some 165) (v := ?_) (a' := ?_) #[true, true, true, true, true, true, false, true, false, false, false, false, false, false] rfl rfl (by kernel_rfl) (fun _ _ _ h => h) (Or.inl ⟨by rfl, ?_⟩) ?_ ?_
      rotate_left
      · intro w'
        go_simp
        with_reducible rfl
      rotate_left
      · simp only [Act.put, List.setIfInBounds_toArray, List.set_cons_zero, List.set_cons_succ, i64_w, i32_w, u8_w]
        rfl
      refine pure_ (i := 8) (N := some 166) (v := ?_) (a' := ?_) #[true, true, true, true, true, true, false, true, true, false, false, false, false, false] rfl rfl (by kernel_rfl) (fun _ _ _ h => h) (Or.inl ⟨by rfl, ?_⟩) ?_ ?_
      rotate_left
      · intro w'
        go_simp
        with_reducible rfl
      rotate_left
      · simp only [Act.put, List.setIfInBounds_toArray, List.set_cons_zero, List.set_cons_succ, i64_w, i32_w, u8_w]
        rfl
      refine pure_ (i := 9) (N := some 167) (v := ?_) (a' := ?_) #[true, true, true, true, true, true, false, true, true, true, false, false, false, false] rfl rfl (by kernel_rfl) (fun _ _ _ h => h) (Or.inl ⟨by rfl, ?_⟩) ?_ ?_
      rotate_left
      · intro w'
        go_simp
        with_reducible rfl
      rotate_left
      · simp only [Act.put, List.setIfInBounds_toArray, List.set_cons_zero, List.set_cons_succ, i64_w, i32_w, u8_w]
        rfl
      refine take_ (i := 6) (N := some 164) (v := ?_) (a' := ?_) #[true, true, true, true, true, true, true, true, true, true, false, false, false, false] rfl rfl (by kernel_rfl) (fun _ _ _ h => h) (Or.inl ⟨by rfl, ?_⟩) hHeld ?_ ?_
      rotate_left
      · rintro w' ⟨s0, s1, s2, s3⟩
        go_simp
        with_reducible rfl
      rotate_left
      · simp only [Act.put, List.setIfInBounds_toArray, List.set_cons_zero, List.set_cons_succ, i64_w, i32_w, u8_w]
        rfl
      refine take_ (i := 10) (N := some 168) (v := ?_) (a' := ?_) #[true, true, true, true, true, true, true, true, true, true, true, false, false, false] rfl rfl (by kernel_rfl) (fun _ _ _ h => h) (Or.inl ⟨by rfl, ?_⟩) hHeld ?_ ?_
      rotate_left
      · rintro w' ⟨s0, s1, s2, s3⟩
        go_simp
        with_reducible rfl
      rotate_left
      · simp only [Act.put, List.setIfInBounds_toArray, List.set_cons_zero, List.set_cons_succ, i64_w, i32_w, u8_w]
        rfl
      refine one_ (i := 11) (N := some 169) #[true, true, true, true, true, true, true, true, true, true, true, true, false, false] rfl rfl (by kernel_rfl) (by decide) (fun K hK => ?_)
      refine goesC_ Try.func34 (by kernel_rfl) rfl (x := (.tmp 158)) (lb := #[]) #[.agg #[.int .i64 x.f0, .slice x.A x.n x.c], .agg #[.int .i64 y.f0, .slice y.A y.n y.c]] (by rfl) rfl rfl rfl (by simp only [List.map_toArray, List.map_cons, List.map_nil]; rfl) (all := #[.agg #[.int .i64 x.f0, .slice x.A x.n x.c], .agg #[.int .i64 y.f0, .slice y.A y.n y.c]]) rfl ?_
      with_reducible refine (HC.out.call HG.out DX.out DY.out).mono ?_
      rintro e we ⟨zz, rfl, hz, hb⟩
      refine ⟨_, rfl, ?_⟩
      have HZ := Aside0.mk hz
      replace HXA := Aside0.mk (pw_cell_below hb HXA.out)
      replace HXAb := Aside0.mk (pw_cell_below hb HXAb.out)
      replace HXB := Aside0.mk (pw_cell_below hb HXB.out)
      replace HXBb := Aside0.mk (pw_cell_below hb HXBb.out)
      have HO5 := Aside0.mk (Kd.R_below HO.out hb)
      have HG5 := Aside0.mk (grown_trans HG.out (grown_of_below hb _))
      clear hz hb
      refine hK.out _ _ ⟨HXA.out, HXAb.out, HXB.out, HXBb.out⟩ (fun hHeld => ?_)
      clear hK K
      refine norm_ (a' := ?_) ?_ ?_
      rotate_left
      · show Act.put _ (some 169) _ = _
        simp only [Act.put, List.setIfInBounds_toArray, List.set_cons_zero, List.set_cons_succ, i64_w, i32_w, u8_w]
        rfl
      refine pure_ (i := 12) (N := some 170) (v := ?_) (a' := ?_) #[true, true, true, true, true, true, true, true, true, true, true, true, true, false] rfl rfl (by kernel_rfl) (fun _ _ _ h => h) (Or.inl ⟨by rfl, ?_⟩) ?_ ?_
      rotate_left
      · intro w'
        go_simp
        with_reducible rfl
      rotate_left
      · simp only [Act.put, List.setIfInBounds_toArray, List.set_cons_zero, List.set_cons_succ, i64_w, i32_w, u8_w]
        rfl
      refine pure_ (i := 13) (N := some 171) (v := ?_) (a' := ?_) #[true, true, true, true, true, true, true, true, true, true, true, true, true, true] rfl rfl (by kernel_rfl) (fun _ _ _ h => h) (Or.inl ⟨by rfl, ?_⟩) ?_ ?_
      rotate_left
      · intro w'
        go_simp
        with_reducible rfl
      rotate_left
      · simp only [Act.put, List.setIfInBounds_toArray, List.set_cons_zero, List.set_cons_succ, i64_w, i32_w, u8_w]
        rfl
      refine done_ (by kernel_rfl) ?_
      clear HO HG HXA HXB HXAb HXBb hHeld hu44
      by_cases hzz : zz < 0
      · have z2 : decide (zz < 0) = true := decide_eq_true hzz
        have ST2 := Aside0.mk (SHI.out (HZ.out.1 hzz))
        rw [z2]
        clear hzz HZ SLO SHI
        go_wp2
        go_roundw
        case rel => exact ⟨i, hh, rfl, rfl, HO5, HG5, ST2⟩
        case measure => have h1 := MS.out; simp [intOf]; omega
      · have z2 : decide (zz < 0) = false := decide_eq_false hzz
        have ST2 : Aside0 (Bs3 κ z44 d p s0 mid h3 j) := ⟨by first | exact SLO.out (fun h => hzz (HZ.out.2 h)) | exact SLO.out (Int.not_lt.1 (fun h => hzz (HZ.out.2 h)))⟩
        rw [z2]
        clear hzz HZ SLO SHI
        go_wp2
        go_roundw
        case rel => exact ⟨h3, j, rfl, rfl, HO5, HG5, ST2⟩
        case measure => have h1 := MS.out; simp [intOf]; omega
    · have q0 := eq_false (show ¬ (i : Int) < (j : Int) by omega)
      have q00 := eq_false hij
      obtain rfl : i = j := by omega
      have hjb := ST.out.2.2.1
      obtain ⟨na, nam, nmb, nmidb, namid, nbl, nlen, nn0, np, bn0, nr0, _⟩ := hn
      obtain ⟨en, hen⟩ : ∃ en, i + en = n0 := ⟨n0 - i, by omega⟩
      obtain ⟨L1, L2, R1, R2, ⟨b1, b2, b3, b4, b5⟩, hd, ⟨n1, n2, n3, n4⟩, ⟨s1, s2, s3, s4⟩, ⟨d1, d2, d3, d4⟩, hz⟩ := TAIL.out i en (by omega) ST.out
      rw [hd] at HO
      have HMM2 := HMM.out
      have S1 := Aside0.mk s1
      have S2 := Aside0.mk s2
      have S3 := Aside0.mk s3
      have S4 := Aside0.mk s4
      have D1 := Aside0.mk d1
      have D2 := Aside0.mk d2
      have D3 := Aside0.mk d3
      have D4 := Aside0.mk d4
      have HZ := Aside0.mk hz
      clear s1 s2 s3 s4 d1 d2 d3 d4 hz hd hij hij0 ST TAIL HB DD HMM
      have HLEN := Aside0.mk nlen
      have EA := Aside0.mk na
      have EL1 := Aside0.mk (show i = a + L1.length by omega)
      have ER0 := Aside0.mk (show i = (P ++ L1).length by rw [List.length_append]; omega)
      have EL2 := Aside0.mk (show m = i + L2.length by omega)
      have ER1 := Aside0.mk (show en = m + R1.length by omega)
      have EM := Aside0.mk (show mid = i + R1.length by omega)
      have EE := Aside0.mk (show en = mid + L2.length by omega)
      have EB := Aside0.mk (show b = en + R2.length by omega)
      have IH1 := HIH.out a i mid (by omega)
      have HI1 := Aside0.mk IH1
      have IH2 := HIH.out mid en b (by omega)
      have HI2 := Aside0.mk IH2
      clear IH1 IH2 HIH
      by_cases hA : i < m
      · by_cases hB : m < en
        · by_cases hC : a < i
          · by_cases hD : en < b
            · have qA := eq_true (show (i : Int) < (m : Int) by omega)
              have qAn := eq_true (show i < m by omega)
              have qA2 := eq_true (show (mid : Int) < (en : Int) by omega)
              have qA2n := eq_true (show mid < en by omega)
              have qB := eq_true (show (m : Int) < (en : Int) by omega)
              have qBn := eq_true (show m < en by omega)
              have qB2 := eq_true (show (i : Int) < (mid : Int) by omega)
              have qB2n := eq_true (show i < mid by omega)
              have qC := eq_true (show (a : Int) < (i : Int) by omega)
              have qCn := eq_true (show a < i by omega)
              have qD := eq_true (show (en : Int) < (b : Int) by omega)
              have qDn := eq_true (show en < b by omega)
              have X1 := Aside0.mk (show 1 ≤ L1.length by omega)
              have X2 := Aside0.mk (show 1 ≤ L2.length by omega)
              have X3 := Aside0.mk (show 1 ≤ R1.length by omega)
              have X4 := Aside0.mk (show 1 ≤ R2.length by omega)
              have wen : wrap64 ((n0 : Int) - (i : Int)) = (en : Int) := wsub hen bn0
              have wenq : IntKind.i64.wrap ((n0 : Int) - (i : Int)) = (en : Int) := (i64_w _).trans wen
              clear na nam nmb nmidb namid nbl nlen nn0 np bn0 nr0 hen b1 b2 b3 b4 b5 n1 n2 n3 n4 hjb HMM2 hA hB hC hD
              go_wp2_with (first | (go_at_call 45; with_reducible refine (rotate_calls go base len cap i m en ok (.func (.func 34) #[] #[]) (P ++ L1) L2 R1 (R2 ++ S) _ HO.out ER0.out EL2.out ER1.out X2.out X3.out HLEN.out).mono ?_; rintro e_ w5 ⟨rfl, ho, hg⟩; have HO1 := Aside0.mk (show Kd.R kG 44 w5 base ok (.slice (some ⟨go, 0, none⟩) len cap) (P ++ L1 ++ R1 ++ (L2 ++ (R2 ++ S))) from by have h := ho; simp only [List.append_assoc] at h ⊢; exact h); have HG1 := Aside0.mk (grown_trans HG.out hg); have HCB := Aside0.mk (HC.out.later HG1.out); clear ho hg) | (go_at_call 43; with_reducible refine (HI1.out.call P L1 R1 (L2 ++ (R2 ++ S)) _ HO1.out EA.out EL1.out EM.out X1.out X3.out S1.out S3.out HLEN.out D1.out D3.out HCB.out).mono ?_; rintro e_ w6 ⟨rfl, ⟨Z1, y1, y2, ho⟩, hg⟩; have HO2 := Aside0.mk ho; have HG2 := Aside0.mk (grown_trans HG1.out hg); have Y1 := Aside0.mk y1; have Y2 := Aside0.mk y2; have HO2b := Aside0.mk (show Kd.R kG 44 w6 base ok (.slice (some ⟨go, 0, none⟩) len cap) (P ++ Z1 ++ L2 ++ R2 ++ S) from by have h := HO2.out; simp only [List.append_assoc] at h ⊢; exact h); have EZ := Aside0.mk (show mid = (P ++ Z1).length from by have h := Y2.out.len; have h2 := EM.out; have h3 := EL1.out; have h4 := EA.out; simp only [List.length_append] at h ⊢; omega); have HCC := Aside0.mk (HC.out.later HG2.out); clear ho hg y1 y2) | (go_at_call 43; with_reducible refine (HI2.out.call (P ++ Z1) L2 R2 S _ HO2b.out EZ.out EE.out EB.out X2.out X4.out S2.out S4.out HLEN.out D2.out D4.out HCC.out).mono ?_; rintro e_ w7 ⟨rfl, ⟨Z2, y3, y4, ho⟩, hg⟩; have HO3 := Aside0.mk ho; have HG3 := Aside0.mk (grown_trans HG2.out hg); have Y3 := Aside0.mk y3; have Y4 := Aside0.mk y4; clear ho hg y3 y4))
              go_end0
              have hzz := HZ.out Z1 Z2 Y1.out Y2.out Y3.out Y4.out
              exact ⟨rfl, ⟨Z1 ++ Z2, hzz.1, hzz.2, (by have h := HO3.out; simp only [List.append_assoc] at h ⊢; exact h)⟩, HG3.out⟩
            · have qA := eq_true (show (i : Int) < (m : Int) by omega)
              have qAn := eq_true (show i < m by omega)
              have qA2 := eq_true (show (mid : Int) < (en : Int) by omega)
              have qA2n := eq_true (show mid < en by omega)
              have qB := eq_true (show (m : Int) < (en : Int) by omega)
              have qBn := eq_true (show m < en by omega)
              have qB2 := eq_true (show (i : Int) < (mid : Int) by omega)
              have qB2n := eq_true (show i < mid by omega)
              have qC := eq_true (show (a : Int) < (i : Int) by omega)
              have qCn := eq_true (show a < i by omega)
              have qD := eq_false (show ¬ (en : Int) < (b : Int) by omega)
              have qDn := eq_false (show ¬ en < b by omega)
              have X1 := Aside0.mk (show 1 ≤ L1.length by omega)
              have X2 := Aside0.mk (show 1 ≤ L2.length by omega)
              have X3 := Aside0.mk (show 1 ≤ R1.length by omega)
              have ZS2 := Aside0.mk (srt_or S2.out S4.out (by omega))
              have wen : wrap64 ((n0 : Int) - (i : Int)) = (en : Int) := wsub hen bn0
              have wenq : IntKind.i64.wrap ((n0 : Int) - (i : Int)) = (en : Int) := (i64_w _).trans wen
              clear na nam nmb nmidb namid nbl nlen nn0 np bn0 nr0 hen b1 b2 b3 b4 b5 n1 n2 n3 n4 hjb HMM2 hA hB hC hD
              go_wp2_with (first | (go_at_call 45; with_reducible refine (rotate_calls go base len cap i m en ok (.func (.func 34) #[] #[]) (P ++ L1) L2 R1 (R2 ++ S) _ HO.out ER0.out EL2.out ER1.out X2.out X3.out HLEN.out).mono ?_; rintro e_ w5 ⟨rfl, ho, hg⟩; have HO1 := Aside0.mk (show Kd.R kG 44 w5 base ok (.slice (some ⟨go, 0, none⟩) len cap) (P ++ L1 ++ R1 ++ (L2 ++ (R2 ++ S))) from by have h := ho; simp only [List.append_assoc] at h ⊢; exact h); have HG1 := Aside0.mk (grown_trans HG.out hg); have HCB := Aside0.mk (HC.out.later HG1.out); clear ho hg) | (go_at_call 43; with_reducible refine (HI1.out.call P L1 R1 (L2 ++ (R2 ++ S)) _ HO1.out EA.out EL1.out EM.out X1.out X3.out S1.out S3.out HLEN.out D1.out D3.out HCB.out).mono ?_; rintro e_ w6 ⟨rfl, ⟨Z1, y1, y2, ho⟩, hg⟩; have HO2 := Aside0.mk ho; have HG2 := Aside0.mk (grown_trans HG1.out hg); have Y1 := Aside0.mk y1; have Y2 := Aside0.mk y2; skip; clear ho hg y1 y2))
              go_end0
              have hzz := HZ.out Z1 (L2 ++ R2) Y1.out Y2.out ZS2.out (Stb.refl _)
              exact ⟨rfl, ⟨Z1 ++ (L2 ++ R2), hzz.1, hzz.2, (by have h := HO2.out; simp only [List.append_assoc] at h ⊢; exact h)⟩, HG2.out⟩
          · by_cases hD : en < b
            · have qA := eq_true (show (i : Int) < (m : Int) by omega)
              have qAn := eq_true (show i < m by omega)
              have qA2 := eq_true (show (mid : Int) < (en : Int) by omega)
              have qA2n := eq_true (show mid < en by omega)
              have qB := eq_true (show (m : Int) < (en : Int) by omega)
              have qBn := eq_true (show m < en by omega)
              have qB2 := eq_true (show (i : Int) < (mid : Int) by omega)
              have qB2n := eq_true (show i < mid by omega)
              have qC := eq_false (show ¬ (a : Int) < (i : Int) by omega)
              have qCn := eq_false (show ¬ a < i by omega)
              have qD := eq_true (show (en : Int) < (b : Int) by omega)
              have qDn := eq_true (show en < b by omega)
              have X2 := Aside0.mk (show 1 ≤ L2.length by omega)
              have X3 := Aside0.mk (show 1 ≤ R1.length by omega)
              have X4 := Aside0.mk (show 1 ≤ R2.length by omega)
              have ZS1 := Aside0.mk (srt_or S1.out S3.out (by omega))
              have wen : wrap64 ((n0 : Int) - (i : Int)) = (en : Int) := wsub hen bn0
              have wenq : IntKind.i64.wrap ((n0 : Int) - (i : Int)) = (en : Int) := (i64_w _).trans wen
              clear na nam nmb nmidb namid nbl nlen nn0 np bn0 nr0 hen b1 b2 b3 b4 b5 n1 n2 n3 n4 hjb HMM2 hA hB hC hD
              go_wp2_with (first | (go_at_call 45; with_reducible refine (rotate_calls go base len cap i m en ok (.func (.func 34) #[] #[]) (P ++ L1) L2 R1 (R2 ++ S) _ HO.out ER0.out EL2.out ER1.out X2.out X3.out HLEN.out).mono ?_; rintro e_ w5 ⟨rfl, ho, hg⟩; have HO1 := Aside0.mk (show Kd.R kG 44 w5 base ok (.slice (some ⟨go, 0, none⟩) len cap) (P ++ L1 ++ R1 ++ (L2 ++ (R2 ++ S))) from by have h := ho; simp only [List.append_assoc] at h ⊢; exact h); have HG1 := Aside0.mk (grown_trans HG.out hg); have HO2b := Aside0.mk (show Kd.R kG 44 w5 base ok (.slice (some ⟨go, 0, none⟩) len cap) (P ++ (L1 ++ R1) ++ L2 ++ R2 ++ S) from by have h := HO1.out; simp only [List.append_assoc] at h ⊢; exact h); have EZ := Aside0.mk (show mid = (P ++ (L1 ++ R1)).length from by have h2 := EM.out; have h3 := EL1.out; have h4 := EA.out; simp only [List.length_append]; omega); have HCC := Aside0.mk (HC.out.later HG1.out); clear ho hg) | (go_at_call 43; with_reducible refine (HI2.out.call (P ++ (L1 ++ R1)) L2 R2 S _ HO2b.out EZ.out EE.out EB.out X2.out X4.out S2.out S4.out HLEN.out D2.out D4.out HCC.out).mono ?_; rintro e_ w7 ⟨rfl, ⟨Z2, y3, y4, ho⟩, hg⟩; have HO3 := Aside0.mk ho; have HG3 := Aside0.mk (grown_trans HG1.out hg); have Y3 := Aside0.mk y3; have Y4 := Aside0.mk y4; clear ho hg y3 y4))
              go_end0
              have hzz := HZ.out (L1 ++ R1) Z2 ZS1.out (Stb.refl _) Y3.out Y4.out
              exact ⟨rfl, ⟨(L1 ++ R1) ++ Z2, hzz.1, hzz.2, (by have h := HO3.out; simp only [List.append_assoc] at h ⊢; exact h)⟩, HG3.out⟩
            · have qA := eq_true (show (i : Int) < (m : Int) by omega)
              have qAn := eq_true (show i < m by omega)
              have qA2 := eq_true (show (mid : Int) < (en : Int) by omega)
              have qA2n := eq_true (show mid < en by omega)
              have qB := eq_true (show (m : Int) < (en : Int) by omega)
              have qBn := eq_true (show m < en by omega)
              have qB2 := eq_true (show (i : Int) < (mid : Int) by omega)
              have qB2n := eq_true (show i < mid by omega)
              have qC := eq_false (show ¬ (a : Int) < (i : Int) by omega)
              have qCn := eq_false (show ¬ a < i by omega)
              have qD := eq_false (show ¬ (en : Int) < (b : Int) by omega)
              have qDn := eq_false (show ¬ en < b by omega)
              have X2 := Aside0.mk (show 1 ≤ L2.length by omega)
              have X3 := Aside0.mk (show 1 ≤ R1.length by omega)
              have ZS1 := Aside0.mk (srt_or S1.out S3.out (by omega))
              have ZS2 := Aside0.mk (srt_or S2.out S4.out (by omega))
              have wen : wrap64 ((n0 : Int) - (i : Int)) = (en : Int) := wsub hen bn0
              have wenq : IntKind.i64.wrap ((n0 : Int) - (i : Int)) = (en : Int) := (i64_w _).trans wen
              clear na nam nmb nmidb namid nbl nlen nn0 np bn0 nr0 hen b1 b2 b3 b4 b5 n1 n2 n3 n4 hjb HMM2 hA hB hC hD
              go_wp2_with (first | (go_at_call 45; with_reducible refine (rotate_calls go base len cap i m en ok (.func (.func 34) #[] #[]) (P ++ L1) L2 R1 (R2 ++ S) _ HO.out ER0.out EL2.out ER1.out X2.out X3.out HLEN.out).mono ?_; rintro e_ w5 ⟨rfl, ho, hg⟩; have HO1 := Aside0.mk (show Kd.R kG 44 w5 base ok (.slice (some ⟨go, 0, none⟩) len cap) (P ++ L1 ++ R1 ++ (L2 ++ (R2 ++ S))) from by have h := ho; simp only [List.append_assoc] at h ⊢; exact h); have HG1 := Aside0.mk (grown_trans HG.out hg); skip; clear ho hg))
              go_end0
              have hzz := HZ.out (L1 ++ R1) (L2 ++ R2) ZS1.out (Stb.refl _) ZS2.out (Stb.refl _)
              exact ⟨rfl, ⟨(L1 ++ R1) ++ (L2 ++ R2), hzz.1, hzz.2, (by have h := HO1.out; simp only [List.append_assoc] at h ⊢; exact h)⟩, HG1.out⟩
        · by_cases hC : a < i
          · by_cases hD : en < b
            · have qA := eq_true (show (i : Int) < (m : Int) by omega)
              have qAn := eq_true (show i < m by omega)
              have qA2 := eq_true (show (mid : Int) < (en : Int) by omega)
              have qA2n := eq_true (show mid < en by omega)
              have qB := eq_false (show ¬ (m : Int) < (en : Int) by omega)
              have qBn := eq_false (show ¬ m < en by omega)
              have qB2 := eq_false (show ¬ (i : Int) < (mid : Int) by omega)
              have qB2n := eq_false (show ¬ i < mid by omega)
              have qC := eq_true (show (a : Int) < (i : Int) by omega)
              have qCn := eq_true (show a < i by omega)
              have qD := eq_true (show (en : Int) < (b : Int) by omega)
              have qDn := eq_true (show en < b by omega)
              have X1 := Aside0.mk (show 1 ≤ L1.length by omega)
              have X2 := Aside0.mk (show 1 ≤ L2.length by omega)
              have X4 := Aside0.mk (show 1 ≤ R2.length by omega)
              have ZS1 := Aside0.mk (srt_or S1.out S3.out (by omega))
              have HO1 := Aside0.mk (show Kd.R kG 44 wr base ok (.slice (some ⟨go, 0, none⟩) len cap) (P ++ L1 ++ R1 ++ (L2 ++ (R2 ++ S))) from by have h := HO.out; rw [turn_or (show L2.length = 0 ∨ R1.length = 0 by omega)] at h; simp only [List.append_assoc] at h ⊢; exact h)
              have HO2b := Aside0.mk (show Kd.R kG 44 wr base ok (.slice (some ⟨go, 0, none⟩) len cap) (P ++ (L1 ++ R1) ++ L2 ++ R2 ++ S) from by have h := HO1.out; simp only [List.append_assoc] at h ⊢; exact h)
              have EZ := Aside0.mk (show mid = (P ++ (L1 ++ R1)).length from by have h2 := EM.out; have h3 := EL1.out; have h4 := EA.out; simp only [List.length_append]; omega)
              have HCC := Aside0.mk (HC.out.later HG.out)
              have wen : wrap64 ((n0 : Int) - (i : Int)) = (en : Int) := wsub hen bn0
              have wenq : IntKind.i64.wrap ((n0 : Int) - (i : Int)) = (en : Int) := (i64_w _).trans wen
              clear na nam nmb nmidb namid nbl nlen nn0 np bn0 nr0 hen b1 b2 b3 b4 b5 n1 n2 n3 n4 hjb HMM2 hA hB hC hD
              go_wp2_with (first | (go_at_call 43; with_reducible refine (HI2.out.call (P ++ (L1 ++ R1)) L2 R2 S _ HO2b.out EZ.out EE.out EB.out X2.out X4.out S2.out S4.out HLEN.out D2.out D4.out HCC.out).mono ?_; rintro e_ w7 ⟨rfl, ⟨Z2, y3, y4, ho⟩, hg⟩; have HO3 := Aside0.mk ho; have HG3 := Aside0.mk (grown_trans HG.out hg); have Y3 := Aside0.mk y3; have Y4 := Aside0.mk y4; clear ho hg y3 y4))
              go_end0
              have hzz := HZ.out (L1 ++ R1) Z2 ZS1.out (Stb.refl _) Y3.out Y4.out
              exact ⟨rfl, ⟨(L1 ++ R1) ++ Z2, hzz.1, hzz.2, (by have h := HO3.out; simp only [List.append_assoc] at h ⊢; exact h)⟩, HG3.out⟩
            · have qA := eq_true (show (i : Int) < (m : Int) by omega)
              have qAn := eq_true (show i < m by omega)
              have qA2 := eq_true (show (mid : Int) < (en : Int) by omega)
              have qA2n := eq_true (show mid < en by omega)
              have qB := eq_false (show ¬ (m : Int) < (en : Int) by omega)
              have qBn := eq_false (show ¬ m < en by omega)
              have qB2 := eq_false (show ¬ (i : Int) < (mid : Int) by omega)
              have qB2n := eq_false (show ¬ i < mid by omega)
              have qC := eq_true (show (a : Int) < (i : Int) by omega)
              have qCn := eq_true (show a < i by omega)
              have qD := eq_false (show ¬ (en : Int) < (b : Int) by omega)
              have qDn := eq_false (show ¬ en < b by omega)
              have X1 := Aside0.mk (show 1 ≤ L1.length by omega)
              have X2 := Aside0.mk (show 1 ≤ L2.length by omega)
              have ZS1 := Aside0.mk (srt_or S1.out S3.out (by omega))
              have ZS2 := Aside0.mk (srt_or S2.out S4.out (by omega))
              have HO1 := Aside0.mk (show Kd.R kG 44 wr base ok (.slice (some ⟨go, 0, none⟩) len cap) (P ++ L1 ++ R1 ++ (L2 ++ (R2 ++ S))) from by have h := HO.out; rw [turn_or (show L2.length = 0 ∨ R1.length = 0 by omega)] at h; simp only [List.append_assoc] at h ⊢; exact h)
              have wen : wrap64 ((n0 : Int) - (i : Int)) = (en : Int) := wsub hen bn0
              have wenq : IntKind.i64.wrap ((n0 : Int) - (i : Int)) = (en : Int) := (i64_w _).trans wen
              clear na nam nmb nmidb namid nbl nlen nn0 np bn0 nr0 hen b1 b2 b3 b4 b5 n1 n2 n3 n4 hjb HMM2 hA hB hC hD
              go_wp2
              go_end0
              have hzz := HZ.out (L1 ++ R1) (L2 ++ R2) ZS1.out (Stb.refl _) ZS2.out (Stb.refl _)
              exact ⟨rfl, ⟨(L1 ++ R1) ++ (L2 ++ R2), hzz.1, hzz.2, (by have h := HO1.out; simp only [List.append_assoc] at h ⊢; exact h)⟩, HG.out⟩
          · by_cases hD : en < b
            · have qA := eq_true (show (i : Int) < (m : Int) by omega)
              have qAn := eq_true (show i < m by omega)
              have qA2 := eq_true (show (mid : Int) < (en : Int) by omega)
              have qA2n := eq_true (show mid < en by omega)
              have qB := eq_false (show ¬ (m : Int) < (en : Int) by omega)
              have qBn := eq_false (show ¬ m < en by omega)
              have qB2 := eq_false (show ¬ (i : Int) < (mid : Int) by omega)
              have qB2n := eq_false (show ¬ i < mid by omega)
              have qC := eq_false (show ¬ (a : Int) < (i : Int) by omega)
              have qCn := eq_false (show ¬ a < i by omega)
              have qD := eq_true (show (en : Int) < (b : Int) by omega)
              have qDn := eq_true (show en < b by omega)
              have X2 := Aside0.mk (show 1 ≤ L2.length by omega)
              have X4 := Aside0.mk (show 1 ≤ R2.length by omega)
              have ZS1 := Aside0.mk (srt_or S1.out S3.out (by omega))
              have HO1 := Aside0.mk (show Kd.R kG 44 wr base ok (.slice (some ⟨go, 0, none⟩) len cap) (P ++ L1 ++ R1 ++ (L2 ++ (R2 ++ S))) from by have h := HO.out; rw [turn_or (show L2.length = 0 ∨ R1.length = 0 by omega)] at h; simp only [List.append_assoc] at h ⊢; exact h)
              have HO2b := Aside0.mk (show Kd.R kG 44 wr base ok (.slice (some ⟨go, 0, none⟩) len cap) (P ++ (L1 ++ R1) ++ L2 ++ R2 ++ S) from by have h := HO1.out; simp only [List.append_assoc] at h ⊢; exact h)
              have EZ := Aside0.mk (show mid = (P ++ (L1 ++ R1)).length from by have h2 := EM.out; have h3 := EL1.out; have h4 := EA.out; simp only [List.length_append]; omega)
              have HCC := Aside0.mk (HC.out.later HG.out)
              have wen : wrap64 ((n0 : Int) - (i : Int)) = (en : Int) := wsub hen bn0
              have wenq : IntKind.i64.wrap ((n0 : Int) - (i : Int)) = (en : Int) := (i64_w _).trans wen
              clear na nam nmb nmidb namid nbl nlen nn0 np bn0 nr0 hen b1 b2 b3 b4 b5 n1 n2 n3 n4 hjb HMM2 hA hB hC hD
              go_wp2_with (first | (go_at_call 43; with_reducible refine (HI2.out.call (P ++ (L1 ++ R1)) L2 R2 S _ HO2b.out EZ.out EE.out EB.out X2.out X4.out S2.out S4.out HLEN.out D2.out D4.out HCC.out).mono ?_; rintro e_ w7 ⟨rfl, ⟨Z2, y3, y4, ho⟩, hg⟩; have HO3 := Aside0.mk ho; have HG3 := Aside0.mk (grown_trans HG.out hg); have Y3 := Aside0.mk y3; have Y4 := Aside0.mk y4; clear ho hg y3 y4))
              go_end0
              have hzz := HZ.out (L1 ++ R1) Z2 ZS1.out (Stb.refl _) Y3.out Y4.out
              exact ⟨rfl, ⟨(L1 ++ R1) ++ Z2, hzz.1, hzz.2, (by have h := HO3.out; simp only [List.append_assoc] at h ⊢; exact h)⟩, HG3.out⟩
            · have qA := eq_true (show (i : Int) < (m : Int) by omega)
              have qAn := eq_true (show i < m by omega)
              have qA2 := eq_true (show (mid : Int) < (en : Int) by omega)
              have qA2n := eq_true (show mid < en by omega)
              have qB := eq_false (show ¬ (m : Int) < (en : Int) by omega)
              have qBn := eq_false (show ¬ m < en by omega)
              have qB2 := eq_false (show ¬ (i : Int) < (mid : Int) by omega)
              have qB2n := eq_false (show ¬ i < mid by omega)
              have qC := eq_false (show ¬ (a : Int) < (i : Int) by omega)
              have qCn := eq_false (show ¬ a < i by omega)
              have qD := eq_false (show ¬ (en : Int) < (b : Int) by omega)
              have qDn := eq_false (show ¬ en < b by omega)
              have X2 := Aside0.mk (show 1 ≤ L2.length by omega)
              have ZS1 := Aside0.mk (srt_or S1.out S3.out (by omega))
              have ZS2 := Aside0.mk (srt_or S2.out S4.out (by omega))
              have HO1 := Aside0.mk (show Kd.R kG 44 wr base ok (.slice (some ⟨go, 0, none⟩) len cap) (P ++ L1 ++ R1 ++ (L2 ++ (R2 ++ S))) from by have h := HO.out; rw [turn_or (show L2.length = 0 ∨ R1.length = 0 by omega)] at h; simp only [List.append_assoc] at h ⊢; exact h)
              have wen : wrap64 ((n0 : Int) - (i : Int)) = (en : Int) := wsub hen bn0
              have wenq : IntKind.i64.wrap ((n0 : Int) - (i : Int)) = (en : Int) := (i64_w _).trans wen
              clear na nam nmb nmidb namid nbl nlen nn0 np bn0 nr0 hen b1 b2 b3 b4 b5 n1 n2 n3 n4 hjb HMM2 hA hB hC hD
              go_wp2
              go_end0
              have hzz := HZ.out (L1 ++ R1) (L2 ++ R2) ZS1.out (Stb.refl _) ZS2.out (Stb.refl _)
              exact ⟨rfl, ⟨(L1 ++ R1) ++ (L2 ++ R2), hzz.1, hzz.2, (by have h := HO1.out; simp only [List.append_assoc] at h ⊢; exact h)⟩, HG.out⟩
      · by_cases hB : m < en
        · exfalso; omega
        · exfalso; omega
end
end Go.Proofs.Ytdgpcjhincgijaa.Pr

