-- Texts by hand and by programs of this session, joined (wip/tool/merge.py).
import Derived.RangeFuncNested
import Derived.RangeFuncBound
import Derived.RangeFuncCalls
import Derived.RangeFuncLeaves
import Derived.RangeFuncBox
import Derived.Shelf.Abstract
import Derived.Shelf.RegionOpen
import Derived.OwnWalkIn
import Derived.TacticsInMore
import Derived.LoopNIn
import Derived.LoopIn
import Derived.Test.YtdgpcjhincgijaaMLT4
import Derived.Test.YtdgpcjhincgijaaMLT5
-- YtdgpcjhincgijaaLs2
namespace Go.Proofs.Ytdgpcjhincgijaa.Pr
open Go.RowKit Go.Shelf Go.Proofs.YtdgpcjhincgijaaW.PrintWords Go.Proofs.YtdgpcjhincgijaaW.PrintLast Go.Proofs.YtdgpcjhincgijaaW.PrintMore
set_option linter.unusedVariables false
set_option linter.unusedSimpArgs false

section
attribute [local go_sem] Oper.semAt_some
set_option maxHeartbeats 8000000 in
set_option maxRecDepth 100000 in
theorem sym_one (κ : G44 → Int) (Dm : G44 → Prop) (g3 go base len cap a m b : Nat) (ok : Nat → Prop) (P : List G44) (x : G44) (R S : List G44) (W0 : World) (hR : Kd.R kG 44 W0 base ok (.slice (some ⟨go, 0, none⟩) len cap) (P ++ x :: (R ++ S))) (ha : a = P.length) (hm : m = a + 1) (hb : b = m + R.length) (hs : Srt κ R) (hl : len ≤ 1048576) (hDx : Dm x) (hD : ∀ x ∈ R, Dm x) (hC : CmpOk κ Dm g3 go W0) :
    Calls Try.prog 43 #[.slice (some ⟨go, 0, none⟩) len cap, .int .i64 (a : Int), .int .i64 (m : Int), .int .i64 (b : Int), .func (.func 34) #[] #[]] W0 fun e W' => e = .returned (.tuple #[]) ∧ (∃ Z, Srt κ Z ∧ Stb κ (x :: R) Z ∧ Kd.R kG 44 W' base ok (.slice (some ⟨go, 0, none⟩) len cap) (P ++ Z ++ S)) ∧ W0.grownBy W' (some go) := by
  have hlen := row_len hR
  simp only [List.length_append, List.length_cons] at hlen
  have HLEN := Aside0.mk (show b ≤ len ∧ len ≤ 1048576 ∧ a < len by omega)
  have HO := Aside0.mk hR
  have HG := Aside0.mk (World.grownBy.refl W0 (some go))
  have HC := Aside0.mk hC
  have HD := Aside0.mk hD
  have HDX := Aside0.mk hDx
  have DD := Aside0.mk (show ∀ k, m ≤ k → k < b → Dm ((P ++ x :: (R ++ S)).getD k z44) from fun k h1 h2 => by
    rw [show P ++ x :: (R ++ S) = (P ++ [x]) ++ (R ++ S) by simp, getD_app z44 _ _ k (by simp; omega), getD_app_lt z44 R S _ (by simp; omega), List.getD_eq_getElem?_getD, List.getElem?_eq_getElem (by simp; omega)]
    exact hD _ (List.getElem_mem _))
  have DX := Aside0.mk (show (P ++ x :: (R ++ S)).getD a z44 = x from getD_mid z44 P x _ ha)
  have FND := Aside0.mk (fun i (s : Bs1 κ z44 (P ++ x :: (R ++ S)) x m b i i) => Bs1.found (S := S) (show m = P.length + 1 by omega) hb hs s)
  have ST := Aside0.mk (show Bs1 κ z44 (P ++ x :: (R ++ S)) x m b m b from ⟨Nat.le_refl _, by omega, Nat.le_refl _, .inl rfl, .inl rfl⟩)
  have wm : wrap64 ((m : Int) - (a : Int)) = 1 := wsub (x := m) (y := a) (z := 1) (by omega) (by omega)
  have wm2 : IntKind.i64.wrap ((m : Int) - (a : Int)) = 1 := (i64_w _).trans wm
  have HAM := Aside0.mk (show m = a + 1 ∧ m ≤ b ∧ a = P.length by omega)
  clear hR hlen hl hC hD hDx hb hs ha hm
  generalize P ++ x :: (R ++ S) = d at HO ST DD DX FND
  go_enter Try.func43, Try.ntmps43
  go_wp2
  go_loopw [10, 11] (fun v10 v11 w' => ∃ (i j : Nat), v10 = .int .i64 (i : Int) ∧ v11 = .int .i64 (j : Int) ∧ Aside0 (Kd.R kG 44 w' base ok (.slice (some ⟨go, 0, none⟩) len cap) d) ∧ Aside0 (W0.grownBy w' (some go)) ∧ Aside0 (Bs1 κ z44 d x m b i j))
    (fun v10 v11 _ => (intOf v11).toNat - (intOf v10).toNat)
  case atStart => exact ⟨m, b, rfl, rfl, HO, HG, ST⟩
  case round =>
    clear HO HG ST wm wm2
    obtain ⟨i, j, rfl, rfl, HO, HG, ST⟩ := hrel
    have hst := ST.out
    have hlen := HLEN.out
    have ham := HAM.out
    by_cases hij : i < j
    · have q0 := eq_true (show (i : Int) < (j : Int) by omega)
      have q00 := eq_true hij
      have hmi := hst.1
      have hjb := hst.2.2.1
      clear hst
      obtain ⟨sj, hsj⟩ : ∃ sj, i + j = sj := ⟨_, rfl⟩
      have bsj : sj ≤ 4503599627370496 := by omega
      obtain ⟨hh, hhh⟩ : ∃ hh, sj / 2 = hh := ⟨_, rfl⟩
      have bhh : hh ≤ 4503599627370496 := by omega
      have h1 : i ≤ hh := by omega
      have h2 : hh < j := by omega
      obtain ⟨h3, hh3⟩ : ∃ h3, hh + 1 = h3 := ⟨_, rfl⟩
      have bh3 : h3 ≤ 4503599627370496 := by omega
      have phh := eq_true (show (0 : Int) ≤ (hh : Int) by omega)
      have phh1 := eq_true (show (hh : Int) < (len : Int) by omega)
      have phh2 := eq_true (show hh < len by omega)
      have Lhh := Aside0.mk (show hh < len by omega)
      have pa := eq_true (show (0 : Int) ≤ (a : Int) by omega)
      have pa1 := eq_true (show (a : Int) < (len : Int) by omega)
      have pa2 := eq_true (show a < len by omega)
      have La := Aside0.mk (show a < len by omega)
      obtain ⟨y, hy⟩ : ∃ y, d.getD hh z44 = y := ⟨_, rfl⟩
      have DY := Aside0.mk (show Dm y from hy ▸ DD.out hh (by omega) (by omega))
      have Rhh := Aside0.mk (show rd_T44 d (hh : Int) = y from hy)
      have Ra := Aside0.mk (show rd_T44 d (a : Int) = x from DX.out)
      have SLO := Aside0.mk (fun h : κ y < κ x => (show Bs1 κ z44 d x m b h3 j from hh3 ▸ ST.out.lo h1 h2 (by rw [hy]; exact h)))
      have SHI := Aside0.mk (fun h : ¬ κ y < κ x => ST.out.hi h1 h2 (by rw [hy]; exact h))
      have MS := Aside0.mk (show j - h3 < j - i ∧ hh - i < j - i by omega)
      have wh1 : wrap64 ((i : Int) + (j : Int)) = (sj : Int) := wadd hsj bsj
      have wh2 : IntKind.i64.wrap ((i : Int) + (j : Int)) = (sj : Int) := (i64_w _).trans wh1
      have wh3 : IntKind.u64.wrap (sj : Int) = (sj : Int) := u64_small bsj
      have wh4 : IntKind.i64.wrap (hh : Int) = (hh : Int) := i64_small bhh
      have wh5 : (sj : Int) / 2 = (hh : Int) := half_z hhh
      have wh3 : wrap64 ((hh : Int) + 1) = (h3 : Int) := wadd (x := hh) (y := 1) hh3 bh3
      have wh3q : IntKind.i64.wrap ((hh : Int) + 1) = (h3 : Int) := (i64_w _).trans wh3
      clear hlen ham hmi hjb hsj hhh bsj bhh hh3 bh3 h1 h2 hy hij
      go_wp2
      have hu44 := Try.underlying44
      have n0 := Aside0.mk (Kd.R_drew HO.out)
      have n1 := Aside0.mk (grown_drew HG.out)
      clear HO HG
      have HO := n0
      have HG := n1
      clear n0 n1
      have HXA := Aside0.mk (show wr.drew.cell? ⟨go, hh * 2, none⟩ = some (.int .i64 y.f0) from by have h := (row_at HO.out hh Lhh.out).1.1; rwa [Rhh.out] at h)
      have HXAb := Aside0.mk (show wr.drew.cell? ⟨go, hh * 2 + 1, none⟩ = some (.slice y.A y.n y.c) from by have h := (row_at HO.out hh Lhh.out).1.2; rwa [Rhh.out] at h)
      have HXB := Aside0.mk (show wr.drew.cell? ⟨go, a * 2, none⟩ = some (.int .i64 x.f0) from by have h := (row_at HO.out a La.out).1.1; rwa [Ra.out] at h)
      have HXBb := Aside0.mk (show wr.drew.cell? ⟨go, a * 2 + 1, none⟩ = some (.slice x.A x.n x.c) from by have h := (row_at HO.out a La.out).1.2; rwa [Ra.out] at h)
      refine start_ (n := 11) (S := fun w' => w'.cell? ⟨go, hh * 2, none⟩ = some (.int .i64 y.f0) ∧ w'.cell? ⟨go, hh * 2 + 1, none⟩ = some (.slice y.A y.n y.c) ∧ w'.cell? ⟨go, a * 2, none⟩ = some (.int .i64 x.f0) ∧ w'.cell? ⟨go, a * 2 + 1, none⟩ = some (.slice x.A x.n x.c)) (ds := []) #[false, false, false, false, false, false, false, false, false, false, false] (by kernel_rfl) rfl rfl ⟨HXA.out, HXAb.out, HXB.out, HXBb.out⟩ (fun hHeld => ?_)
      generalize wr.drew = wd at HO HG HXA HXAb HXB HXBb hHeld ⊢
      refine pure_ (i := 0) (N := some 40) (v := ?_) (a' := ?_) #[true, false, false, false, false, false, false, false, false, false, false] rfl rfl (by kernel_rfl) (fun _ _ _ h => h) (Or.inl ⟨by rfl, ?_⟩) ?_ ?_
      rotate_left
      · intro w'
        go_simp
        with_reducible rfl
      rotate_left
      · simp only [Act.put, List.setIfInBounds_toArray, List.set_cons_zero, List.set_cons_succ, i64_w, i32_w, u8_w]
        rfl
      refine pure_ (i := 1) (N := some 41) (v := ?_) (a' := ?_) #[true, true, false, false, false, false, false, false, false, false, false] rfl rfl (by kernel_rfl) (fun _ _ _ h => h) (Or.inl ⟨by rfl, ?_⟩) ?_ ?_
      rotate_left
      · intro w'
        go_simp
        with_reducible rfl
      rotate_left
      · simp only [Act.put, List.setIfInBounds_toArray, List.set_cons_zero, List.set_cons_succ, i64_w, i32_w, u8_w]
        rfl
      refine pure_ (i := 2) (N := some 42) (v := ?_) (a' := ?_) #[true, true, true, false, false, false, false, false, false, false, false] rfl rfl (by kernel_rfl) (fun _ _ _ h => h) (Or.inl ⟨by rfl, ?_⟩) ?_ ?_
      rotate_left
      · intro w'
        go_simp
        with_reducible rfl
      rotate_left
      · simp only [Act.put, List.setIfInBounds_toArray, List.set_cons_zero, List.set_cons_succ, i64_w, i32_w, u8_w]
        rfl
      refine pure_ (i := 3) (N := some 43) (v := ?_) (a' := ?_) #[true, true, true, true, false, false, false, false, false, false, false] rfl rfl (by kernel_rfl) (fun _ _ _ h => h) (Or.inl ⟨by rfl, ?_⟩) ?_ ?_
      rotate_left
      · intro w'
        go_simp
        with_reducible rfl
      rotate_left
      · simp only [Act.put, List.setIfInBounds_toArray, List.set_cons_zero, List.set_cons_succ, i64_w, i32_w, u8_w]
        rfl
      refine pure_ (i := 5) (N := some 45) (v := ?_) (a' := ?_) #[true, true, true, true, false, true, false, false, false, false, false] rfl rfl (by kernel_rfl) (fun _ _ _ h => h) (Or.inl ⟨by rfl, ?_⟩) ?_ ?_
      rotate_left
      · intro w'
        go_simp
        with_reducible rfl
      rotate_left
      · simp only [Act.put, List.setIfInBounds_toArray, List.set_cons_zero, List.set_cons_succ, i64_w, i32_w, u8_w]
        rfl
      refine pure_ (i := 6) (N := some 46) (v := ?_) (a' := ?_) #[true, true, true, true, false, true, true, false, false, false, false] rfl rfl (by kernel_rfl) (fun _ _ _ h => h) (Or.inl ⟨by rfl, ?_⟩) ?_ ?_
      rotate_left
      · intro w'
        go_simp
        with_reducible rfl
      rotate_left
      · simp only [Act.put, List.setIfInBounds_toArray, List.set_cons_zero, List.set_cons_succ, i64_w, i32_w, u8_w]
        rfl
      refine pure_ (i := 7) (N := some 47) (v := ?_) (a' := ?_) #[true, true, true, true, false, true, true, true, false, false, false] rfl rfl (by kernel_rfl) (fun _ _ _ h => h) (Or.inl ⟨by rfl, ?_⟩) ?_ ?_
      rotate_left
      · intro w'
        go_simp
        with_reducible rfl
      rotate_left
      · simp only [Act.put, List.setIfInBounds_toArray, List.set_cons_zero, List.set_cons_succ, i64_w, i32_w, u8_w]
        rfl
      refine take_ (i := 4) (N := some 44) (v := ?_) (a' := ?_) #[true, true, true, true, true, true, true, true, false, false, false] rfl rfl (by kernel_rfl) (fun _ _ _ h => h) (Or.inl ⟨by rfl, ?_⟩) hHeld ?_ ?_
      rotate_left
      · rintro w' ⟨s0, s1, s2, s3⟩
        go_simp
        with_reducible rfl
      rotate_left
      · simp only [Act.put, List.setIfInBounds_toArray, List.set_cons_zero, List.set_cons_succ, i64_w, i32_w, u8_w]
        rfl
      refine take_ (i := 8) (N := some 48) (v := ?_) (a' := ?_) #[true, true, true, true, true, true, true, true, true, false, false] rfl rfl (by kernel_rfl) (fun _ _ _ h => h) (Or.inl ⟨by rfl, ?_⟩) hHeld ?_ ?_
      rotate_left
      · rintro w' ⟨s0, s1, s2, s3⟩
        go_simp
        with_reducible rfl
      rotate_left
      · simp only [Act.put, List.setIfInBounds_toArray, List.set_cons_zero, List.set_cons_succ, i64_w, i32_w, u8_w]
        rfl
      refine one_ (i := 9) (N := some 49) #[true, true, true, true, true, true, true, true, true, true, false] rfl rfl (by kernel_rfl) (by decide) (fun K hK => ?_)
      refine goesC_ Try.func34 (by kernel_rfl) rfl (x := (.tmp 40)) (lb := #[]) #[.agg #[.int .i64 y.f0, .slice y.A y.n y.c], .agg #[.int .i64 x.f0, .slice x.A x.n x.c]] (by rfl) rfl rfl rfl (by simp only [List.map_toArray, List.map_cons, List.map_nil]; rfl) (all := #[.agg #[.int .i64 y.f0, .slice y.A y.n y.c], .agg #[.int .i64 x.f0, .slice x.A x.n x.c]]) rfl ?_
      with_reducible refine (HC.out.call HG.out DY.out HDX.out).mono ?_
      rintro e we ⟨zz, rfl, hz, hb⟩
      refine ⟨_, rfl, ?_⟩
      have HZ := Aside0.mk hz
      replace HXA := Aside0.mk (pw_cell_below hb HXA.out)
      replace HXAb := Aside0.mk (pw_cell_below hb HXAb.out)
      replace HXB := Aside0.mk (pw_cell_below hb HXB.out)
      replace HXBb := Aside0.mk (pw_cell_below hb HXBb.out)
      have HO5 := Aside0.mk (Kd.R_below HO.out hb)
      have HG5 := Aside0.mk (grown_trans HG.out (grown_of_below hb _))
      clear hz hb
      refine hK.out _ _ ⟨HXA.out, HXAb.out, HXB.out, HXBb.out⟩ (fun hHeld => ?_)
      clear hK K
      refine norm_ (a' := ?_) ?_ ?_
      rotate_left
      · show Act.put _ (some 49) _ = _
        simp only [Act.put, List.setIfInBounds_toArray, List.set_cons_zero, List.set_cons_succ, i64_w, i32_w, u8_w]
        rfl
      refine pure_ (i := 10) (N := some 50) (v := ?_) (a' := ?_) #[true, true, true, true, true, true, true, true, true, true, true] rfl rfl (by kernel_rfl) (fun _ _ _ h => h) (Or.inl ⟨by rfl, ?_⟩) ?_ ?_
      rotate_left
      · intro w'
        go_simp
        with_reducible rfl
      rotate_left
      · simp only [Act.put, List.setIfInBounds_toArray, List.set_cons_zero, List.set_cons_succ, i64_w, i32_w, u8_w]
        rfl
      refine done_ (by kernel_rfl) ?_
      clear HO HG HXA HXB HXAb HXBb hHeld hu44
      by_cases hzz : zz < 0
      · have z2 : decide (zz < 0) = true := decide_eq_true hzz
        have ST2 := Aside0.mk (SLO.out (HZ.out.1 hzz))
        rw [z2]
        clear hzz HZ SLO SHI
        go_wp2
        go_roundw
        case rel => exact ⟨h3, j, rfl, rfl, HO5, HG5, ST2⟩
        case measure => have h1 := MS.out; simp [intOf]; omega
      · have z2 : decide (zz < 0) = false := decide_eq_false hzz
        have ST2 : Aside0 (Bs1 κ z44 d x m b i hh) := ⟨by first | exact SHI.out (fun h => hzz (HZ.out.2 h)) | exact SHI.out (Int.not_lt.1 (fun h => hzz (HZ.out.2 h)))⟩
        rw [z2]
        clear hzz HZ SLO SHI
        go_wp2
        go_roundw
        case rel => exact ⟨i, hh, rfl, rfl, HO5, HG5, ST2⟩
        case measure => have h1 := MS.out; simp [intOf]; omega
    · have q0 := eq_false (show ¬ (i : Int) < (j : Int) by omega)
      have q00 := eq_false hij
      obtain rfl : i = j := by have := hst.2.1; omega
      obtain ⟨f1, f2, f3⟩ := FND.out i ST.out
      obtain ⟨nn, hnn⟩ : ∃ nn, i - m = nn := ⟨_, rfl⟩
      rw [hnn] at f1 f2 f3
      obtain ⟨Z, hZ⟩ : ∃ Z, R.take nn ++ x :: R.drop nn = Z := ⟨_, rfl⟩
      rw [hZ] at f1 f2 f3
      have hmi := hst.1
      have hjb := hst.2.2.1
      clear hst hZ
      rw [← ham.2.2] at f3
      have F1 := Aside0.mk f1
      have F2 := Aside0.mk f2
      have F3 := Aside0.mk f3
      obtain ⟨ip, hip⟩ : ∃ ip, ip + 1 = i := ⟨i - 1, by omega⟩
      have bi : i ≤ 4503599627370496 := by omega
      have HIP := Aside0.mk (show ip = a + nn ∧ ip < len by omega)
      have wip : wrap64 ((i : Int) - 1) = (ip : Int) := wsub (x := i) (y := 1) (show 1 + ip = i by omega) bi
      have wipq : IntKind.i64.wrap ((i : Int) - 1) = (ip : Int) := (i64_w _).trans wip
      clear f1 f2 f3 hnn hip bi hmi hjb hlen ham hij
      go_wp2
      go_loopw [13] (fun v13 w' => ∃ c k : Nat, v13 = .int .i64 (k : Int) ∧ Aside0 (k = a + c ∧ k ≤ ip) ∧ Aside0 (Kd.R kG 44 w' base ok (.slice (some ⟨go, 0, none⟩) len cap) (shu z44 d a c)) ∧ Aside0 (W0.grownBy w' (some go)))
        (fun v13 _ => ip - (intOf v13).toNat)
      case atStart => exact ⟨0, a, rfl, ⟨by have := HIP.out; omega⟩, HO, HG⟩
      case round =>
        clear HO HG ST
        obtain ⟨c, k, rfl, HK, HO, HG⟩ := hrel
        have hk := HK.out
        have hip := HIP.out
        by_cases hki : k < ip
        · have q1 := eq_true (show (k : Int) < (ip : Int) by omega)
          have q11 := eq_true hki
          obtain ⟨k1, hk1⟩ : ∃ k1, k + 1 = k1 := ⟨_, rfl⟩
          have bk1 : k1 ≤ 4503599627370496 := by have := HLEN.out; omega
          have pk := eq_true (show (0 : Int) ≤ (k : Int) by omega)
          have pk1 := eq_true (show (k : Int) < (len : Int) by omega)
          have pk2 := eq_true (show k < len by omega)
          have Lk := Aside0.mk (show k < len by omega)
          have pk1 := eq_true (show (0 : Int) ≤ (k1 : Int) by omega)
          have pk11 := eq_true (show (k1 : Int) < (len : Int) by omega)
          have pk12 := eq_true (show k1 < len by omega)
          have Lk1 := Aside0.mk (show k1 < len by omega)
          have HS := Aside0.mk (show swp z44 (shu z44 d a c) k k1 = shu z44 d a (c + 1) by rw [shu, ← hk1, hk.1])
          obtain ⟨e, he⟩ : ∃ e, shu z44 d a c = e := ⟨_, rfl⟩
          rw [he] at HO HS
          have HK2 := Aside0.mk (show k1 = a + (c + 1) ∧ k1 ≤ ip by omega)
          have MS := Aside0.mk (show ip - k1 < ip - k by omega)
          have wk1 : wrap64 ((k : Int) + 1) = (k1 : Int) := wadd (x := k) (y := 1) hk1 bk1
          have wk1q : IntKind.i64.wrap ((k : Int) + 1) = (k1 : Int) := (i64_w _).trans wk1
          clear hk hip hki hk1 bk1 he
          go_wp2
          have hu44 := Try.underlying44
          have n0 := Aside0.mk (Kd.R_drew HO.out)
          have n1 := Aside0.mk (grown_drew HG.out)
          clear HO HG
          have HO := n0
          have HG := n1
          clear n0 n1
          refine start_ (n := 18) (S := fun w' => w'.cell? ⟨go, k1 * 2, none⟩ = some (.int .i64 (rd_T44 e (k1 : Int)).f0) ∧ w'.cell? ⟨go, k1 * 2 + 1, none⟩ = some (.slice (rd_T44 e (k1 : Int)).A (rd_T44 e (k1 : Int)).n (rd_T44 e (k1 : Int)).c) ∧ w'.cell? ⟨go, k * 2, none⟩ = some (.int .i64 (rd_T44 e (k : Int)).f0) ∧ w'.cell? ⟨go, k * 2 + 1, none⟩ = some (.slice (rd_T44 e (k : Int)).A (rd_T44 e (k : Int)).n (rd_T44 e (k : Int)).c)) (ds := [15, 17]) #[false, false, false, false, false, false, false, false, false, false, false, false, false, false, false, false, false, false] (by kernel_rfl) rfl rfl ⟨(row_at HO.out k1 Lk1.out).1.1, (row_at HO.out k1 Lk1.out).1.2, (row_at HO.out k Lk.out).1.1, (row_at HO.out k Lk.out).1.2⟩ (fun hHeld => ?_)
          generalize wr.drew = wf at HO HG hHeld ⊢
          refine pure_ (i := 0) (N := some 61) (v := ?_) (a' := ?_) #[true, false, false, false, false, false, false, false, false, false, false, false, false, false, false, false, false, false] rfl rfl (by kernel_rfl) (fun _ _ _ h => h) (Or.inl ⟨by rfl, ?_⟩) ?_ ?_
          rotate_left
          · intro w'
            go_simp
            with_reducible rfl
          rotate_left
          · simp only [Act.put, List.setIfInBounds_toArray, List.set_cons_zero, List.set_cons_succ, i64_w, i32_w, u8_w]
            rfl
          refine pure_ (i := 1) (N := some 62) (v := ?_) (a' := ?_) #[true, true, false, false, false, false, false, false, false, false, false, false, false, false, false, false, false, false] rfl rfl (by kernel_rfl) (fun _ _ _ h => h) (Or.inl ⟨by rfl, ?_⟩) ?_ ?_
          rotate_left
          · intro w'
            go_simp
            with_reducible rfl
          rotate_left
          · simp only [Act.put, List.setIfInBounds_toArray, List.set_cons_zero, List.set_cons_succ, i64_w, i32_w, u8_w]
            rfl
          refine pure_ (i := 2) (N := some 63) (v := ?_) (a' := ?_) #[true, true, true, false, false, false, false, false, false, false, false, false, false, false, false, false, false, false] rfl rfl (by kernel_rfl) (fun _ _ _ h => h) (Or.inl ⟨by rfl, ?_⟩) ?_ ?_
          rotate_left
          · intro w'
            go_simp
            with_reducible rfl
          rotate_left
          · simp only [Act.put, List.setIfInBounds_toArray, List.set_cons_zero, List.set_cons_succ, i64_w, i32_w, u8_w]
            rfl
          refine pure_ (i := 3) (N := some 64) (v := ?_) (a' := ?_) #[true, true, true, true, false, false, false, false, false, false, false, false, false, false, false, false, false, false] rfl rfl (by kernel_rfl) (fun _ _ _ h => h) (Or.inl ⟨by rfl, ?_⟩) ?_ ?_
          rotate_left
          · intro w'
            go_simp
            with_reducible rfl
          rotate_left
          · simp only [Act.put, List.setIfInBounds_toArray, List.set_cons_zero, List.set_cons_succ, i64_w, i32_w, u8_w]
            rfl
          refine pure_ (i := 4) (N := some 65) (v := ?_) (a' := ?_) #[true, true, true, true, true, false, false, false, false, false, false, false, false, false, false, false, false, false] rfl rfl (by kernel_rfl) (fun _ _ _ h => h) (Or.inl ⟨by rfl, ?_⟩) ?_ ?_
          rotate_left
          · intro w'
            go_simp
            with_reducible rfl
          rotate_left
          · simp only [Act.put, List.setIfInBounds_toArray, List.set_cons_zero, List.set_cons_succ, i64_w, i32_w, u8_w]
            rfl
          refine pure_ (i := 5) (N := some 66) (v := ?_) (a' := ?_) #[true, true, true, true, true, true, false, false, false, false, false, false, false, false, false, false, false, false] rfl rfl (by kernel_rfl) (fun _ _ _ h => h) (Or.inl ⟨by rfl, ?_⟩) ?_ ?_
          rotate_left
          · intro w'
            go_simp
            with_reducible rfl
          rotate_left
          · simp only [Act.put, List.setIfInBounds_toArray, List.set_cons_zero, List.set_cons_succ, i64_w, i32_w, u8_w]
            rfl
          refine pure_ (i := 6) (N := some 67) (v := ?_) (a' := ?_) #[true, true, true, true, true, true, true, false, false, false, false, false, false, false, false, false, false, false] rfl rfl (by kernel_rfl) (fun _ _ _ h => h) (Or.inl ⟨by rfl, ?_⟩) ?_ ?_
          rotate_left
          · intro w'
            go_simp
            with_reducible rfl
          rotate_left
          · simp only [Act.put, List.setIfInBounds_toArray, List.set_cons_zero, List.set_cons_succ, i64_w, i32_w, u8_w]
            rfl
          refine pure_ (i := 7) (N := some 68) (v := ?_) (a' := ?_) #[true, true, true, true, true, true, true, true, false, false, false, false, false, false, false, false, false, false] rfl rfl (by kernel_rfl) (fun _ _ _ h => h) (Or.inl ⟨by rfl, ?_⟩) ?_ ?_
          rotate_left
          · intro w'
            go_simp
            with_reducible rfl
          rotate_left
          · simp only [Act.put, List.setIfInBounds_toArray, List.set_cons_zero, List.set_cons_succ, i64_w, i32_w, u8_w]
            rfl
          refine pure_ (i := 8) (N := some 69) (v := ?_) (a' := ?_) #[true, true, true, true, true, true, true, true, true, false, false, false, false, false, false, false, false, false] rfl rfl (by kernel_rfl) (fun _ _ _ h => h) (Or.inl ⟨by rfl, ?_⟩) ?_ ?_
          rotate_left
          · intro w'
            go_simp
            with_reducible rfl
          rotate_left
          · simp only [Act.put, List.setIfInBounds_toArray, List.set_cons_zero, List.set_cons_succ, i64_w, i32_w, u8_w]
            rfl
          refine pure_ (i := 10) (N := some 71) (v := ?_) (a' := ?_) #[true, true, true, true, true, true, true, true, true, false, true, false, false, false, false, false, false, false] rfl rfl (by kernel_rfl) (fun _ _ _ h => h) (Or.inl ⟨by rfl, ?_⟩) ?_ ?_
          rotate_left
          · intro w'
            go_simp
            with_reducible rfl
          rotate_left
          · simp only [Act.put, List.setIfInBounds_toArray, List.set_cons_zero, List.set_cons_succ, i64_w, i32_w, u8_w]
            rfl
          refine pure_ (i := 11) (N := some 72) (v := ?_) (a' := ?_) #[true, true, true, true, true, true, true, true, true, false, true, true, false, false, false, false, false, false] rfl rfl (by kernel_rfl) (fun _ _ _ h => h) (Or.inl ⟨by rfl, ?_⟩) ?_ ?_
          rotate_left
          · intro w'
            go_simp
            with_reducible rfl
          rotate_left
          · simp only [Act.put, List.setIfInBounds_toArray, List.set_cons_zero, List.set_cons_succ, i64_w, i32_w, u8_w]
            rfl
          refine pure_ (i := 12) (N := some 73) (v := ?_) (a' := ?_) #[true, true, true, true, true, true, true, true, true, false, true, true, true, false, false, false, false, false] rfl rfl (by kernel_rfl) (fun _ _ _ h => h) (Or.inl ⟨by rfl, ?_⟩) ?_ ?_
          rotate_left
          · intro w'
            go_simp
            with_reducible rfl
          rotate_left
          · simp only [Act.put, List.setIfInBounds_toArray, List.set_cons_zero, List.set_cons_succ, i64_w, i32_w, u8_w]
            rfl
          refine take_ (i := 9) (N := some 70) (v := ?_) (a' := ?_) #[true, true, true, true, true, true, true, true, true, true, true, true, true, false, false, false, false, false] rfl rfl (by kernel_rfl) (fun _ _ _ h => h) (Or.inl ⟨by rfl, ?_⟩) hHeld ?_ ?_
          rotate_left
          · rintro w' ⟨s0, s1, s2, s3⟩
            go_simp
            with_reducible rfl
          rotate_left
          · simp only [Act.put, List.setIfInBounds_toArray, List.set_cons_zero, List.set_cons_succ, i64_w, i32_w, u8_w]
            rfl
          refine take_ (i := 13) (N := some 74) (v := ?_) (a' := ?_) #[true, true, true, true, true, true, true, true, true, true, true, true, true, true, false, false, false, false] rfl rfl (by kernel_rfl) (fun _ _ _ h => h) (Or.inl ⟨by rfl, ?_⟩) hHeld ?_ ?_
          rotate_left
          · rintro w' ⟨s0, s1, s2, s3⟩
            go_simp
            with_reducible rfl
          rotate_left
          · simp only [Act.put, List.setIfInBounds_toArray, List.set_cons_zero, List.set_cons_succ, i64_w, i32_w, u8_w]
            rfl
          refine pure_ (i := 14) (N := some 75) (v := ?_) (a' := ?_) #[true, true, true, true, true, true, true, true, true, true, true, true, true, true, true, false, false, false] rfl rfl (by kernel_rfl) (fun _ _ _ h => h) (Or.inl ⟨by rfl, ?_⟩) ?_ ?_
          rotate_left
          · intro w'
            go_simp
            with_reducible rfl
          rotate_left
          · simp only [Act.put, List.setIfInBounds_toArray, List.set_cons_zero, List.set_cons_succ, i64_w, i32_w, u8_w]
            rfl
          refine last_ (i := 15) (N := none) #[true, true, true, true, true, true, true, true, true, true, true, true, true, true, true, true, false, false] rfl rfl (by kernel_rfl) (by decide) (fun K hK => ?_)
          obtain ⟨⟨hz, hzb⟩, hf, hfb⟩ := row_at HO.out k Lk.out
          refine skip_ (w1 := ?_) (by rfl) rfl ?_ ?_
          rotate_left
          · go_simp
            rfl
          refine hK.out _ _ ?_
          clear hK K
          refine pure_ (i := 16) (N := some 76) (v := ?_) (a' := ?_) #[true, true, true, true, true, true, true, true, true, true, true, true, true, true, true, true, true, false] rfl rfl (by kernel_rfl) (fun _ _ _ h => h) (Or.inl ⟨by rfl, ?_⟩) ?_ ?_
          rotate_left
          · intro w'
            go_simp
            with_reducible rfl
          rotate_left
          · simp only [Act.put, List.setIfInBounds_toArray, List.set_cons_zero, List.set_cons_succ, i64_w, i32_w, u8_w]
            rfl
          refine last_ (i := 17) (N := none) #[true, true, true, true, true, true, true, true, true, true, true, true, true, true, true, true, true, true] rfl rfl (by kernel_rfl) (by decide) (fun K hK => ?_)
          obtain ⟨⟨hz2, hzb2⟩, hf2, hfb2⟩ := row_at (row_put HO.out k Lk.out (rd_T44 e (k1 : Int))).1 k1 Lk1.out
          refine skip_ (w1 := ?_) (by rfl) rfl ?_ ?_
          rotate_left
          · go_simp
            rfl
          refine hK.out _ _ ?_
          clear hK K
          refine done_ (by kernel_rfl) ?_
          have h1 := row_put HO.out k Lk.out (rd_T44 e (k1 : Int))
          have h2 := row_put h1.1 k1 Lk1.out (rd_T44 e (k : Int))
          have HO7 := Aside0.mk (show Kd.R kG 44 ((((wf.setCell ⟨go, k * 2, none⟩ (Value.int IntKind.i64 (rd_T44 e (k1 : Int)).f0)).setCell ⟨go, k * 2 + 1, none⟩ (Value.slice (rd_T44 e (k1 : Int)).A (rd_T44 e (k1 : Int)).n (rd_T44 e (k1 : Int)).c)).setCell ⟨go, k1 * 2, none⟩ (Value.int IntKind.i64 (rd_T44 e (k : Int)).f0)).setCell ⟨go, k1 * 2 + 1, none⟩ (Value.slice (rd_T44 e (k : Int)).A (rd_T44 e (k : Int)).n (rd_T44 e (k : Int)).c)) base ok (.slice (some ⟨go, 0, none⟩) len cap) (swp z44 e k k1) from h2.1)
          have HG7 := Aside0.mk (grown_trans (grown_trans HG.out h1.2) h2.2)
          clear h1 h2 HO HG hz hf hz2 hf2 hzb hfb hzb2 hfb2 hHeld hu44
          generalize ((((wf.setCell ⟨go, k * 2, none⟩ (Value.int IntKind.i64 (rd_T44 e (k1 : Int)).f0)).setCell ⟨go, k * 2 + 1, none⟩ (Value.slice (rd_T44 e (k1 : Int)).A (rd_T44 e (k1 : Int)).n (rd_T44 e (k1 : Int)).c)).setCell ⟨go, k1 * 2, none⟩ (Value.int IntKind.i64 (rd_T44 e (k : Int)).f0)).setCell ⟨go, k1 * 2 + 1, none⟩ (Value.slice (rd_T44 e (k : Int)).A (rd_T44 e (k : Int)).n (rd_T44 e (k : Int)).c)) = wx at HO7 HG7 ⊢
          go_wp2
          go_roundw
          case rel => exact ⟨c + 1, k1, rfl, HK2, ⟨by rw [← HS.out]; exact HO7.out⟩, HG7⟩
          case measure => have h1 := MS.out; simp [intOf]; omega
        · have q1 := eq_false (show ¬ (k : Int) < (ip : Int) by omega)
          have q11 := eq_false hki
          have RES := Aside0.mk (show ∃ Z, Srt κ Z ∧ Stb κ (x :: R) Z ∧ Kd.R kG 44 wr base ok (.slice (some ⟨go, 0, none⟩) len cap) (P ++ Z ++ S) from ⟨Z, F1.out, F2.out, by rw [← F3.out, show nn = c by omega]; exact HO.out⟩)
          clear hk hip hki
          go_wp2
          ((try simp only [Exit.inBlock, Exit.then]); refine bodyPost_ret (results_none rfl _ _ _) rfl ?_)
          exact ⟨rfl, RES.out, HG.out⟩
end
section
attribute [local go_sem] Oper.semAt_some
set_option maxHeartbeats 8000000 in
set_option maxRecDepth 100000 in
theorem sym_last (κ : G44 → Int) (Dm : G44 → Prop) (g3 go base len cap a m b : Nat) (ok : Nat → Prop) (P L : List G44) (x : G44) (S : List G44) (W0 : World) (hR : Kd.R kG 44 W0 base ok (.slice (some ⟨go, 0, none⟩) len cap) (P ++ L ++ x :: S)) (ha : a = P.length) (hm : m = a + L.length) (hb : b = m + 1) (hll : 2 ≤ L.length) (hs : Srt κ L) (hl : len ≤ 1048576) (hDx : Dm x) (hD : ∀ x ∈ L, Dm x) (hC : CmpOk κ Dm g3 go W0) :
    Calls Try.prog 43 #[.slice (some ⟨go, 0, none⟩) len cap, .int .i64 (a : Int), .int .i64 (m : Int), .int .i64 (b : Int), .func (.func 34) #[] #[]] W0 fun e W' => e = .returned (.tuple #[]) ∧ (∃ Z, Srt κ Z ∧ Stb κ (L ++ [x]) Z ∧ Kd.R kG 44 W' base ok (.slice (some ⟨go, 0, none⟩) len cap) (P ++ Z ++ S)) ∧ W0.grownBy W' (some go) := by
  have hlen := row_len hR
  simp only [List.length_append, List.length_cons] at hlen
  have HLEN := Aside0.mk (show b ≤ len ∧ len ≤ 1048576 ∧ m < len by omega)
  have HO := Aside0.mk hR
  have HG := Aside0.mk (World.grownBy.refl W0 (some go))
  have HC := Aside0.mk hC
  have HDX := Aside0.mk hDx
  have DD := Aside0.mk (show ∀ k, a ≤ k → k < m → Dm ((P ++ L ++ x :: S).getD k z44) from fun k h1 h2 => by
    rw [List.append_assoc, getD_app z44 _ _ k (by omega), getD_app_lt z44 L _ _ (by omega), List.getD_eq_getElem?_getD, List.getElem?_eq_getElem (by omega)]
    exact hD _ (List.getElem_mem _))
  have DX := Aside0.mk (show (P ++ L ++ x :: S).getD m z44 = x from getD_mid z44 (P ++ L) x S (by rw [List.length_append]; omega))
  have FND := Aside0.mk (fun i (s : Bs2 κ z44 (P ++ L ++ x :: S) x a m i i) => Bs2.found ha hm hs s)
  have ST := Aside0.mk (show Bs2 κ z44 (P ++ L ++ x :: S) x a m a m from ⟨Nat.le_refl _, by omega, Nat.le_refl _, .inl rfl, .inl rfl⟩)
  obtain ⟨ll, hll2⟩ : ∃ ll, a + ll = m := ⟨L.length, by omega⟩
  have bm : m ≤ 4503599627370496 := by omega
  have bb : b ≤ 4503599627370496 := by omega
  have wm : wrap64 ((m : Int) - (a : Int)) = (ll : Int) := wsub hll2 bm
  have wm2 : IntKind.i64.wrap ((m : Int) - (a : Int)) = (ll : Int) := (i64_w _).trans wm
  have wl1 : ((ll : Int) == 1) = false := beq_eq_false_iff_ne.mpr (by omega)
  have wl2 := eq_false (show ¬ (ll : Int) = 1 by omega)
  have wl3 := eq_false (show ¬ ll = 1 by omega)
  have wb : wrap64 ((b : Int) - (m : Int)) = 1 := wsub (x := b) (y := m) (z := 1) hb.symm bb
  have wb2 : IntKind.i64.wrap ((b : Int) - (m : Int)) = 1 := (i64_w _).trans wb
  have HAM := Aside0.mk (show a ≤ m ∧ b = m + 1 ∧ a = P.length by omega)
  clear hR hlen hl hC hD hDx hs hll hll2 bm bb ha hm hb
  generalize P ++ L ++ x :: S = d at HO ST DD DX FND
  go_enter Try.func43, Try.ntmps43
  go_wp2
  go_loopw [14, 15] (fun v10 v11 w' => ∃ (i j : Nat), v10 = .int .i64 (i : Int) ∧ v11 = .int .i64 (j : Int) ∧ Aside0 (Kd.R kG 44 w' base ok (.slice (some ⟨go, 0, none⟩) len cap) d) ∧ Aside0 (W0.grownBy w' (some go)) ∧ Aside0 (Bs2 κ z44 d x a m i j))
    (fun v10 v11 _ => (intOf v11).toNat - (intOf v10).toNat)
  case atStart => exact ⟨a, m, rfl, rfl, HO, HG, ST⟩
  case round =>
    clear HO HG ST wm wm2 wb wb2 wl1 wl2 wl3
    obtain ⟨i, j, rfl, rfl, HO, HG, ST⟩ := hrel
    have hst := ST.out
    have hlen := HLEN.out
    have ham := HAM.out
    by_cases hij : i < j
    · have q0 := eq_true (show (i : Int) < (j : Int) by omega)
      have q00 := eq_true hij
      have hmi := hst.1
      have hjb := hst.2.2.1
      clear hst
      obtain ⟨sj, hsj⟩ : ∃ sj, i + j = sj := ⟨_, rfl⟩
      have bsj : sj ≤ 4503599627370496 := by omega
      obtain ⟨hh, hhh⟩ : ∃ hh, sj / 2 = hh := ⟨_, rfl⟩
      have bhh : hh ≤ 4503599627370496 := by omega
      have h1 : i ≤ hh := by omega
      have h2 : hh < j := by omega
      obtain ⟨h3, hh3⟩ : ∃ h3, hh + 1 = h3 := ⟨_, rfl⟩
      have bh3 : h3 ≤ 4503599627370496 := by omega
      have phh := eq_true (show (0 : Int) ≤ (hh : Int) by omega)
      have phh1 := eq_true (show (hh : Int) < (len : Int) by omega)
      have phh2 := eq_true (show hh < len by omega)
      have Lhh := Aside0.mk (show hh < len by omega)
      have pm := eq_true (show (0 : Int) ≤ (m : Int) by omega)
      have pm1 := eq_true (show (m : Int) < (len : Int) by omega)
      have pm2 := eq_true (show m < len by omega)
      have Lm := Aside0.mk (show m < len by omega)
      obtain ⟨y, hy⟩ : ∃ y, d.getD hh z44 = y := ⟨_, rfl⟩
      have DY := Aside0.mk (show Dm y from hy ▸ DD.out hh (by omega) (by omega))
      have Rhh := Aside0.mk (show rd_T44 d (hh : Int) = y from hy)
      have Rm := Aside0.mk (show rd_T44 d (m : Int) = x from DX.out)
      have SLO := Aside0.mk (fun h : ¬ κ x < κ y => (show Bs2 κ z44 d x a m h3 j from hh3 ▸ ST.out.lo h1 h2 (by rw [hy]; exact h)))
      have SHI := Aside0.mk (fun h : κ x < κ y => ST.out.hi h1 h2 (by rw [hy]; exact h))
      have MS := Aside0.mk (show j - h3 < j - i ∧ hh - i < j - i by omega)
      have wh1 : wrap64 ((i : Int) + (j : Int)) = (sj : Int) := wadd hsj bsj
      have wh2 : IntKind.i64.wrap ((i : Int) + (j : Int)) = (sj : Int) := (i64_w _).trans wh1
      have wh3 : IntKind.u64.wrap (sj : Int) = (sj : Int) := u64_small bsj
      have wh4 : IntKind.i64.wrap (hh : Int) = (hh : Int) := i64_small bhh
      have wh5 : (sj : Int) / 2 = (hh : Int) := half_z hhh
      have wh3 : wrap64 ((hh : Int) + 1) = (h3 : Int) := wadd (x := hh) (y := 1) hh3 bh3
      have wh3q : IntKind.i64.wrap ((hh : Int) + 1) = (h3 : Int) := (i64_w _).trans wh3
      clear hlen ham hmi hjb hsj hhh bsj bhh hh3 bh3 h1 h2 hy hij
      go_wp2
      have hu44 := Try.underlying44
      have n0 := Aside0.mk (Kd.R_drew HO.out)
      have n1 := Aside0.mk (grown_drew HG.out)
      clear HO HG
      have HO := n0
      have HG := n1
      clear n0 n1
      have HXA := Aside0.mk (show wr.drew.cell? ⟨go, m * 2, none⟩ = some (.int .i64 x.f0) from by have h := (row_at HO.out m Lm.out).1.1; rwa [Rm.out] at h)
      have HXAb := Aside0.mk (show wr.drew.cell? ⟨go, m * 2 + 1, none⟩ = some (.slice x.A x.n x.c) from by have h := (row_at HO.out m Lm.out).1.2; rwa [Rm.out] at h)
      have HXB := Aside0.mk (show wr.drew.cell? ⟨go, hh * 2, none⟩ = some (.int .i64 y.f0) from by have h := (row_at HO.out hh Lhh.out).1.1; rwa [Rhh.out] at h)
      have HXBb := Aside0.mk (show wr.drew.cell? ⟨go, hh * 2 + 1, none⟩ = some (.slice y.A y.n y.c) from by have h := (row_at HO.out hh Lhh.out).1.2; rwa [Rhh.out] at h)
      refine start_ (n := 12) (S := fun w' => w'.cell? ⟨go, m * 2, none⟩ = some (.int .i64 x.f0) ∧ w'.cell? ⟨go, m * 2 + 1, none⟩ = some (.slice x.A x.n x.c) ∧ w'.cell? ⟨go, hh * 2, none⟩ = some (.int .i64 y.f0) ∧ w'.cell? ⟨go, hh * 2 + 1, none⟩ = some (.slice y.A y.n y.c)) (ds := []) #[false, false, false, false, false, false, false, false, false, false, false, false] (by kernel_rfl) rfl rfl ⟨HXA.out, HXAb.out, HXB.out, HXBb.out⟩ (fun hHeld => ?_)
      generalize wr.drew = wd at HO HG HXA HXAb HXB HXBb hHeld ⊢
      refine pure_ (i := 0) (N := some 92) (v := ?_) (a' := ?_) #[true, false, false, false, false, false, false, false, false, false, false, false] rfl rfl (by kernel_rfl) (fun _ _ _ h => h) (Or.inl ⟨by rfl, ?_⟩) ?_ ?_
      rotate_left
      · intro w'
        go_simp
        with_reducible rfl
      rotate_left
      · simp only [Act.put, List.setIfInBounds_toArray, List.set_cons_zero, List.set_cons_succ, i64_w, i32_w, u8_w]
        rfl
      refine pure_ (i := 1) (N := some 93) (v := ?_) (a' := ?_) #[true, true, false, false, false, false, false, false, false, false, false, false] rfl rfl (by kernel_rfl) (fun _ _ _ h => h) (Or.inl ⟨by rfl, ?_⟩) ?_ ?_
      rotate_left
      · intro w'
        go_simp
        with_reducible rfl
      rotate_left
      · simp only [Act.put, List.setIfInBounds_toArray, List.set_cons_zero, List.set_cons_succ, i64_w, i32_w, u8_w]
        rfl
      refine pure_ (i := 2) (N := some 94) (v := ?_) (a' := ?_) #[true, true, true, false, false, false, false, false, false, false, false, false] rfl rfl (by kernel_rfl) (fun _ _ _ h => h) (Or.inl ⟨by rfl, ?_⟩) ?_ ?_
      rotate_left
      · intro w'
        go_simp
        with_reducible rfl
      rotate_left
      · simp only [Act.put, List.setIfInBounds_toArray, List.set_cons_zero, List.set_cons_succ, i64_w, i32_w, u8_w]
        rfl
      refine pure_ (i := 3) (N := some 95) (v := ?_) (a' := ?_) #[true, true, true, true, false, false, false, false, false, false, false, false] rfl rfl (by kernel_rfl) (fun _ _ _ h => h) (Or.inl ⟨by rfl, ?_⟩) ?_ ?_
      rotate_left
      · intro w'
        go_simp
        with_reducible rfl
      rotate_left
      · simp only [Act.put, List.setIfInBounds_toArray, List.set_cons_zero, List.set_cons_succ, i64_w, i32_w, u8_w]
        rfl
      refine pure_ (i := 5) (N := some 97) (v := ?_) (a' := ?_) #[true, true, true, true, false, true, false, false, false, false, false, false] rfl rfl (by kernel_rfl) (fun _ _ _ h => h) (Or.inl ⟨by rfl, ?_⟩) ?_ ?_
      rotate_left
      · intro w'
        go_simp
        with_reducible rfl
      rotate_left
      · simp only [Act.put, List.setIfInBounds_toArray, List.set_cons_zero, List.set_cons_succ, i64_w, i32_w, u8_w]
        rfl
      refine pure_ (i := 6) (N := some 98) (v := ?_) (a' := ?_) #[true, true, true, true, false, true, true, false, false, false, false, false] rfl rfl (by kernel_rfl) (fun _ _ _ h => h) (Or.inl ⟨by rfl, ?_⟩) ?_ ?_
      rotate_left
      · intro w'
        go_simp
        with_reducible rfl
      rotate_left
      · simp only [Act.put, List.setIfInBounds_toArray, List.set_cons_zero, List.set_cons_succ, i64_w, i32_w, u8_w]
        rfl
      refine pure_ (i := 7) (N := some 99) (v := ?_) (a' := ?_) #[true, true, true, true, false, true, true, true, false, false, false, false] rfl rfl (by kernel_rfl) (fun _ _ _ h => h) (Or.inl ⟨by rfl, ?_⟩) ?_ ?_
      rotate_left
      · intro w'
        go_simp
        with_reducible rfl
      rotate_left
      · simp only [Act.put, List.setIfInBounds_toArray, List.set_cons_zero, List.set_cons_succ, i64_w, i32_w, u8_w]
        rfl
      refine take_ (i := 4) (N := some 96) (v := ?_) (a' := ?_) #[true, true, true, true, true, true, true, true, false, false, false, false] rfl rfl (by kernel_rfl) (fun _ _ _ h => h) (Or.inl ⟨by rfl, ?_⟩) hHeld ?_ ?_
      rotate_left
      · rintro w' ⟨s0, s1, s2, s3⟩
        go_simp
        with_reducible rfl
      rotate_left
      · simp only [Act.put, List.setIfInBounds_toArray, List.set_cons_zero, List.set_cons_succ, i64_w, i32_w, u8_w]
        rfl
      refine take_ (i := 8) (N := some 100) (v := ?_) (a' := ?_) #[true, true, true, true, true, true, true, true, true, false, false, false] rfl rfl (by kernel_rfl) (fun _ _ _ h => h) (Or.inl ⟨by rfl, ?_⟩) hHeld ?_ ?_
      rotate_left
      · rintro w' ⟨s0, s1, s2, s3⟩
        go_simp
        with_reducible rfl
      rotate_left
      · simp only [Act.put, List.setIfInBounds_toArray, List.set_cons_zero, List.set_cons_succ, i64_w, i32_w, u8_w]
        rfl
      refine one_ (i := 9) (N := some 101) #[true, true, true, true, true, true, true, true, true, true, false, false] rfl rfl (by kernel_rfl) (by decide) (fun K hK => ?_)
      refine goesC_ Try.func34 (by kernel_rfl) rfl (x := (.tmp 92)) (lb := #[]) #[.agg #[.int .i64 x.f0, .slice x.A x.n x.c], .agg #[.int .i64 y.f0, .slice y.A y.n y.c]] (by rfl) rfl rfl rfl (by simp only [List.map_toArray, List.map_cons, List.map_nil]; rfl) (all := #[.agg #[.int .i64 x.f0, .slice x.A x.n x.c], .agg #[.int .i64 y.f0, .slice y.A y.n y.c]]) rfl ?_
      with_reducible refine (HC.out.call HG.out HDX.out DY.out).mono ?_
      rintro e we ⟨zz, rfl, hz, hb⟩
      refine ⟨_, rfl, ?_⟩
      have HZ := Aside0.mk hz
      replace HXA := Aside0.mk (pw_cell_below hb HXA.out)
      replace HXAb := Aside0.mk (pw_cell_below hb HXAb.out)
      replace HXB := Aside0.mk (pw_cell_below hb HXB.out)
      replace HXBb := Aside0.mk (pw_cell_below hb HXBb.out)
      have HO5 := Aside0.mk (Kd.R_below HO.out hb)
      have HG5 := Aside0.mk (grown_trans HG.out (grown_of_below hb _))
      clear hz hb
      refine hK.out _ _ ⟨HXA.out, HXAb.out, HXB.out, HXBb.out⟩ (fun hHeld => ?_)
      clear hK K
      refine norm_ (a' := ?_) ?_ ?_
      rotate_left
      · show Act.put _ (some 101) _ = _
        simp only [Act.put, List.setIfInBounds_toArray, List.set_cons_zero, List.set_cons_succ, i64_w, i32_w, u8_w]
        rfl
      refine pure_ (i := 10) (N := some 102) (v := ?_) (a' := ?_) #[true, true, true, true, true, true, true, true, true, true, true, false] rfl rfl (by kernel_rfl) (fun _ _ _ h => h) (Or.inl ⟨by rfl, ?_⟩) ?_ ?_
      rotate_left
      · intro w'
        go_simp
        with_reducible rfl
      rotate_left
      · simp only [Act.put, List.setIfInBounds_toArray, List.set_cons_zero, List.set_cons_succ, i64_w, i32_w, u8_w]
        rfl
      refine pure_ (i := 11) (N := some 103) (v := ?_) (a' := ?_) #[true, true, true, true, true, true, true, true, true, true, true, true] rfl rfl (by kernel_rfl) (fun _ _ _ h => h) (Or.inl ⟨by rfl, ?_⟩) ?_ ?_
      rotate_left
      · intro w'
        go_simp
        with_reducible rfl
      rotate_left
      · simp only [Act.put, List.setIfInBounds_toArray, List.set_cons_zero, List.set_cons_succ, i64_w, i32_w, u8_w]
        rfl
      refine done_ (by kernel_rfl) ?_
      clear HO HG HXA HXB HXAb HXBb hHeld hu44
      by_cases hzz : zz < 0
      · have z2 : decide (zz < 0) = true := decide_eq_true hzz
        have ST2 := Aside0.mk (SHI.out (HZ.out.1 hzz))
        rw [z2]
        clear hzz HZ SLO SHI
        go_wp2
        go_roundw
        case rel => exact ⟨i, hh, rfl, rfl, HO5, HG5, ST2⟩
        case measure => have h1 := MS.out; simp [intOf]; omega
      · have z2 : decide (zz < 0) = false := decide_eq_false hzz
        have ST2 : Aside0 (Bs2 κ z44 d x a m h3 j) := ⟨by first | exact SLO.out (fun h => hzz (HZ.out.2 h)) | exact SLO.out (Int.not_lt.1 (fun h => hzz (HZ.out.2 h)))⟩
        rw [z2]
        clear hzz HZ SLO SHI
        go_wp2
        go_roundw
        case rel => exact ⟨h3, j, rfl, rfl, HO5, HG5, ST2⟩
        case measure => have h1 := MS.out; simp [intOf]; omega
    · have q0 := eq_false (show ¬ (i : Int) < (j : Int) by omega)
      have q00 := eq_false hij
      obtain rfl : i = j := by have := hst.2.1; omega
      obtain ⟨f1, f2, f3⟩ := FND.out i ST.out
      obtain ⟨Z, hZ⟩ : ∃ Z, L.take (i - a) ++ x :: L.drop (i - a) = Z := ⟨_, rfl⟩
      rw [hZ] at f1 f2 f3
      have hmi := hst.1
      have hjb := hst.2.2.1
      clear hst hZ
      have F1 := Aside0.mk f1
      have F2 := Aside0.mk f2
      have F3 := Aside0.mk f3
      have HIM := Aside0.mk (show i ≤ m ∧ a ≤ i by omega)
      clear f1 f2 f3 hmi hjb hlen ham hij
      go_wp2
      go_loopw [17] (fun v13 w' => ∃ c k : Nat, v13 = .int .i64 (k : Int) ∧ Aside0 (k + c = m ∧ i ≤ k) ∧ Aside0 (Kd.R kG 44 w' base ok (.slice (some ⟨go, 0, none⟩) len cap) (shd z44 d m c)) ∧ Aside0 (W0.grownBy w' (some go)))
        (fun v13 _ => (intOf v13).toNat)
      case atStart => exact ⟨0, m, rfl, ⟨by have := HIM.out; omega⟩, HO, HG⟩
      case round =>
        clear HO HG ST
        obtain ⟨c, k, rfl, HK, HO, HG⟩ := hrel
        have hk := HK.out
        have him := HIM.out
        have hlen := HLEN.out
        by_cases hki : i < k
        · have q1 := eq_true (show (i : Int) < (k : Int) by omega)
          have q11 := eq_true hki
          obtain ⟨kp, hkp⟩ : ∃ kp, 1 + kp = k := ⟨k - 1, by omega⟩
          have bk : k ≤ 4503599627370496 := by omega
          have pk := eq_true (show (0 : Int) ≤ (k : Int) by omega)
          have pk1 := eq_true (show (k : Int) < (len : Int) by omega)
          have pk2 := eq_true (show k < len by omega)
          have Lk := Aside0.mk (show k < len by omega)
          have pkp := eq_true (show (0 : Int) ≤ (kp : Int) by omega)
          have pkp1 := eq_true (show (kp : Int) < (len : Int) by omega)
          have pkp2 := eq_true (show kp < len by omega)
          have Lkp := Aside0.mk (show kp < len by omega)
          have HS := Aside0.mk (show swp z44 (shd z44 d m c) k kp = shd z44 d m (c + 1) by rw [shd, show m - c = k by omega, show k - 1 = kp by omega])
          obtain ⟨e, he⟩ : ∃ e, shd z44 d m c = e := ⟨_, rfl⟩
          rw [he] at HO HS
          have HK2 := Aside0.mk (show kp + (c + 1) = m ∧ i ≤ kp by omega)
          have MS := Aside0.mk (show kp < k by omega)
          have wkp : wrap64 ((k : Int) - 1) = (kp : Int) := wsub (x := k) (y := 1) hkp bk
          have wkpq : IntKind.i64.wrap ((k : Int) - 1) = (kp : Int) := (i64_w _).trans wkp
          clear hk him hki hkp bk he hlen
          go_wp2
          have hu44 := Try.underlying44
          have n0 := Aside0.mk (Kd.R_drew HO.out)
          have n1 := Aside0.mk (grown_drew HG.out)
          clear HO HG
          have HO := n0
          have HG := n1
          clear n0 n1
          refine start_ (n := 18) (S := fun w' => w'.cell? ⟨go, kp * 2, none⟩ = some (.int .i64 (rd_T44 e (kp : Int)).f0) ∧ w'.cell? ⟨go, kp * 2 + 1, none⟩ = some (.slice (rd_T44 e (kp : Int)).A (rd_T44 e (kp : Int)).n (rd_T44 e (kp : Int)).c) ∧ w'.cell? ⟨go, k * 2, none⟩ = some (.int .i64 (rd_T44 e (k : Int)).f0) ∧ w'.cell? ⟨go, k * 2 + 1, none⟩ = some (.slice (rd_T44 e (k : Int)).A (rd_T44 e (k : Int)).n (rd_T44 e (k : Int)).c)) (ds := [15, 17]) #[false, false, false, false, false, false, false, false, false, false, false, false, false, false, false, false, false, false] (by kernel_rfl) rfl rfl ⟨(row_at HO.out kp Lkp.out).1.1, (row_at HO.out kp Lkp.out).1.2, (row_at HO.out k Lk.out).1.1, (row_at HO.out k Lk.out).1.2⟩ (fun hHeld => ?_)
          generalize wr.drew = wf at HO HG hHeld ⊢
          refine pure_ (i := 0) (N := some 113) (v := ?_) (a' := ?_) #[true, false, false, false, false, false, false, false, false, false, false, false, false, false, false, false, false, false] rfl rfl (by kernel_rfl) (fun _ _ _ h => h) (Or.inl ⟨by rfl, ?_⟩) ?_ ?_
          rotate_left
          · intro w'
            go_simp
            with_reducible rfl
          rotate_left
          · simp only [Act.put, List.setIfInBounds_toArray, List.set_cons_zero, List.set_cons_succ, i64_w, i32_w, u8_w]
            rfl
          refine pure_ (i := 1) (N := some 114) (v := ?_) (a' := ?_) #[true, true, false, false, false, false, false, false, false, false, false, false, false, false, false, false, false, false] rfl rfl (by kernel_rfl) (fun _ _ _ h => h) (Or.inl ⟨by rfl, ?_⟩) ?_ ?_
          rotate_left
          · intro w'
            go_simp
            with_reducible rfl
          rotate_left
          · simp only [Act.put, List.setIfInBounds_toArray, List.set_cons_zero, List.set_cons_succ, i64_w, i32_w, u8_w]
            rfl
          refine pure_ (i := 2) (N := some 115) (v := ?_) (a' := ?_) #[true, true, true, false, false, false, false, false, false, false, false, false, false, false, false, false, false, false] rfl rfl (by kernel_rfl) (fun _ _ _ h => h) (Or.inl ⟨by rfl, ?_⟩) ?_ ?_
          rotate_left
          · intro w'
            go_simp
            with_reducible rfl
          rotate_left
          · simp only [Act.put, List.setIfInBounds_toArray, List.set_cons_zero, List.set_cons_succ, i64_w, i32_w, u8_w]
            rfl
          refine pure_ (i := 3) (N := some 116) (v := ?_) (a' := ?_) #[true, true, true, true, false, false, false, false, false, false, false, false, false, false, false, false, false, false] rfl rfl (by kernel_rfl) (fun _ _ _ h => h) (Or.inl ⟨by rfl, ?_⟩) ?_ ?_
          rotate_left
          · intro w'
            go_simp
            with_reducible rfl
          rotate_left
          · simp only [Act.put, List.setIfInBounds_toArray, List.set_cons_zero, List.set_cons_succ, i64_w, i32_w, u8_w]
            rfl
          refine pure_ (i := 4) (N := some 117) (v := ?_) (a' := ?_) #[true, true, true, true, true, false, false, false, false, false, false, false, false, false, false, false, false, false] rfl rfl (by kernel_rfl) (fun _ _ _ h => h) (Or.inl ⟨by rfl, ?_⟩) ?_ ?_
          rotate_left
          · intro w'
            go_simp
            with_reducible rfl
          rotate_left
          · simp only [Act.put, List.setIfInBounds_toArray, List.set_cons_zero, List.set_cons_succ, i64_w, i32_w, u8_w]
            rfl
          refine pure_ (i := 5) (N := some 118) (v := ?_) (a' := ?_) #[true, true, true, true, true, true, false, false, false, false, false, false, false, false, false, false, false, false] rfl rfl (by kernel_rfl) (fun _ _ _ h => h) (Or.inl ⟨by rfl, ?_⟩) ?_ ?_
          rotate_left
          · intro w'
            go_simp
            with_reducible rfl
          rotate_left
          · simp only [Act.put, List.setIfInBounds_toArray, List.set_cons_zero, List.set_cons_succ, i64_w, i32_w, u8_w]
            rfl
          refine pure_ (i := 6) (N := some 119) (v := ?_) (a' := ?_) #[true, true, true, true, true, true, true, false, false, false, false, false, false, false, false, false, false, false] rfl rfl (by kernel_rfl) (fun _ _ _ h => h) (Or.inl ⟨by rfl, ?_⟩) ?_ ?_
          rotate_left
          · intro w'
            go_simp
            with_reducible rfl
          rotate_left
          · simp only [Act.put, List.setIfInBounds_toArray, List.set_cons_zero, List.set_cons_succ, i64_w, i32_w, u8_w]
            rfl
          refine pure_ (i := 7) (N := some 120) (v := ?_) (a' := ?_) #[true, true, true, true, true, true, true, true, false, false, false, false, false, false, false, false, false, false] rfl rfl (by kernel_rfl) (fun _ _ _ h => h) (Or.inl ⟨by rfl, ?_⟩) ?_ ?_
          rotate_left
          · intro w'
            go_simp
            with_reducible rfl
          rotate_left
          · simp only [Act.put, List.setIfInBounds_toArray, List.set_cons_zero, List.set_cons_succ, i64_w, i32_w, u8_w]
            rfl
          refine pure_ (i := 8) (N := some 121) (v := ?_) (a' := ?_) #[true, true, true, true, true, true, true, true, true, false, false, false, false, false, false, false, false, false] rfl rfl (by kernel_rfl) (fun _ _ _ h => h) (Or.inl ⟨by rfl, ?_⟩) ?_ ?_
          rotate_left
          · intro w'
            go_simp
            with_reducible rfl
          rotate_left
          · simp only [Act.put, List.setIfInBounds_toArray, List.set_cons_zero, List.set_cons_succ, i64_w, i32_w, u8_w]
            rfl
          refine pure_ (i := 10) (N := some 123) (v := ?_) (a' := ?_) #[true, true, true, true, true, true, true, true, true, false, true, false, false, false, false, false, false, false] rfl rfl (by kernel_rfl) (fun _ _ _ h => h) (Or.inl ⟨by rfl, ?_⟩) ?_ ?_
          rotate_left
          · intro w'
            go_simp
            with_reducible rfl
          rotate_left
          · simp only [Act.put, List.setIfInBounds_toArray, List.set_cons_zero, List.set_cons_succ, i64_w, i32_w, u8_w]
            rfl
          refine pure_ (i := 11) (N := some 124) (v := ?_) (a' := ?_) #[true, true, true, true, true, true, true, true, true, false, true, true, false, false, false, false, false, false] rfl rfl (by kernel_rfl) (fun _ _ _ h => h) (Or.inl ⟨by rfl, ?_⟩) ?_ ?_
          rotate_left
          · intro w'
            go_simp
            with_reducible rfl
          rotate_left
          · simp only [Act.put, List.setIfInBounds_toArray, List.set_cons_zero, List.set_cons_succ, i64_w, i32_w, u8_w]
            rfl
          refine pure_ (i := 12) (N := some 125) (v := ?_) (a' := ?_) #[true, true, true, true, true, true, true, true, true, false, true, true, true, false, false, false, false, false] rfl rfl (by kernel_rfl) (fun _ _ _ h => h) (Or.inl ⟨by rfl, ?_⟩) ?_ ?_
          rotate_left
          · intro w'
            go_simp
            with_reducible rfl
          rotate_left
          · simp only [Act.put, List.setIfInBounds_toArray, List.set_cons_zero, List.set_cons_succ, i64_w, i32_w, u8_w]
            rfl
          refine take_ (i := 9) (N := some 122) (v := ?_) (a' := ?_) #[true, true, true, true, true, true, true, true, true, true, true, true, true, false, false, false, false, false] rfl rfl (by kernel_rfl) (fun _ _ _ h => h) (Or.inl ⟨by rfl, ?_⟩) hHeld ?_ ?_
          rotate_left
          · rintro w' ⟨s0, s1, s2, s3⟩
            go_simp
            with_reducible rfl
          rotate_left
          · simp only [Act.put, List.setIfInBounds_toArray, List.set_cons_zero, List.set_cons_succ, i64_w, i32_w, u8_w]
            rfl
          refine take_ (i := 13) (N := some 126) (v := ?_) (a' := ?_) #[true, true, true, true, true, true, true, true, true, true, true, true, true, true, false, false, false, false] rfl rfl (by kernel_rfl) (fun _ _ _ h => h) (Or.inl ⟨by rfl, ?_⟩) hHeld ?_ ?_
          rotate_left
          · rintro w' ⟨s0, s1, s2, s3⟩
            go_simp
            with_reducible rfl
          rotate_left
          · simp only [Act.put, List.setIfInBounds_toArray, List.set_cons_zero, List.set_cons_succ, i64_w, i32_w, u8_w]
            rfl
          refine pure_ (i := 14) (N := some 127) (v := ?_) (a' := ?_) #[true, true, true, true, true, true, true, true, true, true, true, true, true, true, true, false, false, false] rfl rfl (by kernel_rfl) (fun _ _ _ h => h) (Or.inl ⟨by rfl, ?_⟩) ?_ ?_
          rotate_left
          · intro w'
            go_simp
            with_reducible rfl
          rotate_left
          · simp only [Act.put, List.setIfInBounds_toArray, List.set_cons_zero, List.set_cons_succ, i64_w, i32_w, u8_w]
            rfl
          refine last_ (i := 15) (N := none) #[true, true, true, true, true, true, true, true, true, true, true, true, true, true, true, true, false, false] rfl rfl (by kernel_rfl) (by decide) (fun K hK => ?_)
          obtain ⟨⟨hz, hzb⟩, hf, hfb⟩ := row_at HO.out k Lk.out
          refine skip_ (w1 := ?_) (by rfl) rfl ?_ ?_
          rotate_left
          · go_simp
            rfl
          refine hK.out _ _ ?_
          clear hK K
          refine pure_ (i := 16) (N := some 128) (v := ?_) (a' := ?_) #[true, true, true, true, true, true, true, true, true, true, true, true, true, true, true, true, true, false] rfl rfl (by kernel_rfl) (fun _ _ _ h => h) (Or.inl ⟨by rfl, ?_⟩) ?_ ?_
          rotate_left
          · intro w'
            go_simp
            with_reducible rfl
          rotate_left
          · simp only [Act.put, List.setIfInBounds_toArray, List.set_cons_zero, List.set_cons_succ, i64_w, i32_w, u8_w]
            rfl
          refine last_ (i := 17) (N := none) #[true, true, true, true, true, true, true, true, true, true, true, true, true, true, true, true, true, true] rfl rfl (by kernel_rfl) (by decide) (fun K hK => ?_)
          obtain ⟨⟨hz2, hzb2⟩, hf2, hfb2⟩ := row_at (row_put HO.out k Lk.out (rd_T44 e (kp : Int))).1 kp Lkp.out
          refine skip_ (w1 := ?_) (by rfl) rfl ?_ ?_
          rotate_left
          · go_simp
            rfl
          refine hK.out _ _ ?_
          clear hK K
          refine done_ (by kernel_rfl) ?_
          have h1 := row_put HO.out k Lk.out (rd_T44 e (kp : Int))
          have h2 := row_put h1.1 kp Lkp.out (rd_T44 e (k : Int))
          have HO7 := Aside0.mk (show Kd.R kG 44 ((((wf.setCell ⟨go, k * 2, none⟩ (Value.int IntKind.i64 (rd_T44 e (kp : Int)).f0)).setCell ⟨go, k * 2 + 1, none⟩ (Value.slice (rd_T44 e (kp : Int)).A (rd_T44 e (kp : Int)).n (rd_T44 e (kp : Int)).c)).setCell ⟨go, kp * 2, none⟩ (Value.int IntKind.i64 (rd_T44 e (k : Int)).f0)).setCell ⟨go, kp * 2 + 1, none⟩ (Value.slice (rd_T44 e (k : Int)).A (rd_T44 e (k : Int)).n (rd_T44 e (k : Int)).c)) base ok (.slice (some ⟨go, 0, none⟩) len cap) (swp z44 e k kp) from h2.1)
          have HG7 := Aside0.mk (grown_trans (grown_trans HG.out h1.2) h2.2)
          clear h1 h2 HO HG hz hf hz2 hf2 hzb hfb hzb2 hfb2 hHeld hu44
          generalize ((((wf.setCell ⟨go, k * 2, none⟩ (Value.int IntKind.i64 (rd_T44 e (kp : Int)).f0)).setCell ⟨go, k * 2 + 1, none⟩ (Value.slice (rd_T44 e (kp : Int)).A (rd_T44 e (kp : Int)).n (rd_T44 e (kp : Int)).c)).setCell ⟨go, kp * 2, none⟩ (Value.int IntKind.i64 (rd_T44 e (k : Int)).f0)).setCell ⟨go, kp * 2 + 1, none⟩ (Value.slice (rd_T44 e (k : Int)).A (rd_T44 e (k : Int)).n (rd_T44 e (k : Int)).c)) = wx at HO7 HG7 ⊢
          go_wp2
          go_roundw
          case rel => exact ⟨c + 1, kp, rfl, HK2, ⟨by rw [← HS.out]; exact HO7.out⟩, HG7⟩
          case measure => have h1 := MS.out; simp [intOf]; omega
        · have q1 := eq_false (show ¬ (i : Int) < (k : Int) by omega)
          have q11 := eq_false hki
          have RES := Aside0.mk (show ∃ Z, Srt κ Z ∧ Stb κ (L ++ [x]) Z ∧ Kd.R kG 44 wr base ok (.slice (some ⟨go, 0, none⟩) len cap) (P ++ Z ++ S) from ⟨Z, F1.out, F2.out, by rw [← F3.out, show m - i = c by omega]; exact HO.out⟩)
          clear hk him hki hlen
          go_wp2
          ((try simp only [Exit.inBlock, Exit.then]); refine bodyPost_ret (results_none rfl _ _ _) rfl ?_)
          exact ⟨rfl, RES.out, HG.out⟩
end
end Go.Proofs.Ytdgpcjhincgijaa.Pr

-- YtdgpcjhincgijaaLs3
namespace Go.Proofs.Ytdgpcjhincgijaa.Pr
open Go.RowKit Go.Shelf Go.Proofs.YtdgpcjhincgijaaW.PrintWords Go.Proofs.YtdgpcjhincgijaaW.PrintLast Go.Proofs.YtdgpcjhincgijaaW.PrintMore
set_option linter.unusedVariables false
set_option linter.unusedSimpArgs false
/-- What symMerge does. -/
def SymOk (κ : G44 → Int) (Dm : G44 → Prop) (g3 go base len cap : Nat) (ok : Nat → Prop) (a m b : Nat) : Prop := ∀ (P L R S : List G44) (W0 : World), Kd.R kG 44 W0 base ok (.slice (some ⟨go, 0, none⟩) len cap) (P ++ L ++ R ++ S) → a = P.length → m = a + L.length → b = m + R.length → 1 ≤ L.length → 1 ≤ R.length → Srt κ L → Srt κ R → len ≤ 1048576 → (∀ x ∈ L, Dm x) → (∀ x ∈ R, Dm x) → CmpOk κ Dm g3 go W0 →
  Calls Try.prog 43 #[.slice (some ⟨go, 0, none⟩) len cap, .int .i64 (a : Int), .int .i64 (m : Int), .int .i64 (b : Int), .func (.func 34) #[] #[]] W0 fun e W' => e = .returned (.tuple #[]) ∧ (∃ Z, Srt κ Z ∧ Stb κ (L ++ R) Z ∧ Kd.R kG 44 W' base ok (.slice (some ⟨go, 0, none⟩) len cap) (P ++ Z ++ S)) ∧ W0.grownBy W' (some go)
theorem SymOk.call {κ : G44 → Int} {Dm : G44 → Prop} {g3 go base len cap : Nat} {ok : Nat → Prop} {a m b : Nat} (h : SymOk κ Dm g3 go base len cap ok a m b) (P L R S : List G44) (W0 : World) (hR : Kd.R kG 44 W0 base ok (.slice (some ⟨go, 0, none⟩) len cap) (P ++ L ++ R ++ S)) (ha : a = P.length) (hm : m = a + L.length) (hb : b = m + R.length) (hl1 : 1 ≤ L.length) (hr1 : 1 ≤ R.length) (hsL : Srt κ L) (hsR : Srt κ R) (hl : len ≤ 1048576) (hDL : ∀ x ∈ L, Dm x) (hDR : ∀ x ∈ R, Dm x) (hC : CmpOk κ Dm g3 go W0) :
  Calls Try.prog 43 #[.slice (some ⟨go, 0, none⟩) len cap, .int .i64 (a : Int), .int .i64 (m : Int), .int .i64 (b : Int), .func (.func 34) #[] #[]] W0 fun e W' => e = .returned (.tuple #[]) ∧ (∃ Z, Srt κ Z ∧ Stb κ (L ++ R) Z ∧ Kd.R kG 44 W' base ok (.slice (some ⟨go, 0, none⟩) len cap) (P ++ Z ++ S)) ∧ W0.grownBy W' (some go) := h P L R S W0 hR ha hm hb hl1 hr1 hsL hsR hl hDL hDR hC
end Go.Proofs.Ytdgpcjhincgijaa.Pr

