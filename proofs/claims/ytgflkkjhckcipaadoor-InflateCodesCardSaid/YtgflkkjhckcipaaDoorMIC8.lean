-- Texts by hand and by programs of this session, joined (wip/tool/merge.py).
import Derived.Test.YtgflkkjhckcipaaDoorMIC7
-- YtgflkkjhckcipaaDoorSo2
set_option maxHeartbeats 16000000
set_option maxRecDepth 1000000
namespace Go.Proofs.YtgflkkjhckcipaaDoor.Hu
open Go.RowKit Go.Shelf Go.Proofs.YtgflkkjhckcipaaDoorW.PrintWords Go.Proofs.YtgflkkjhckcipaaDoorW.PrintLast Go.Proofs.YtgflkkjhckcipaaDoorW.PrintMore
set_option linter.unusedVariables false
set_option linter.unusedSimpArgs false

section
attribute [local go_sem] Oper.semAt_some
theorem sym_one (κ : Int → Int) (Dm : Int → Prop) (g3 go base len cap a m b : Nat) (ok : Nat → Prop) (P : List Int) (x : Int) (R S : List Int) (W0 : World) (hR : Kd.R (Kd.int .i64) 3 W0 base ok (.slice (some ⟨go, 0, none⟩) len cap) (P ++ x :: (R ++ S))) (ha : a = P.length) (hm : m = a + 1) (hb : b = m + R.length) (hs : Srt κ R) (hl : len ≤ 1048576) (hDx : Dm x) (hD : ∀ x ∈ R, Dm x) (hC : CmpOk κ Dm g3 go W0) :
    Calls Tryd.prog 75 #[.slice (some ⟨go, 0, none⟩) len cap, .int .i64 (a : Int), .int .i64 (m : Int), .int .i64 (b : Int), .func (.func 70) #[] #[.pointer (some ⟨g3, 0, none⟩)]] W0 fun e W' => e = .returned (.tuple #[]) ∧ (∃ Z, Srt κ Z ∧ Stb κ (x :: R) Z ∧ Kd.R (Kd.int .i64) 3 W' base ok (.slice (some ⟨go, 0, none⟩) len cap) (P ++ Z ++ S)) ∧ W0.grownBy W' (some go) := by
  have hlen := row_len hR
  simp only [List.length_append, List.length_cons] at hlen
  have HLEN := Ak (show b ≤ len ∧ len ≤ 1048576 ∧ a < len by omega)
  have HO := Ak hR
  have HG := Ak (World.grownBy.refl W0 (some go))
  have HC := Ak hC
  have HD := Ak hD
  have HDX := Ak hDx
  have DD := Ak (show ∀ k, m ≤ k → k < b → Dm ((P ++ x :: (R ++ S)).getD k 0) from fun k h1 h2 => by
    rw [show P ++ x :: (R ++ S) = (P ++ [x]) ++ (R ++ S) by simp, getD_app 0 _ _ k (by simp; omega), getD_app_lt 0 R S _ (by simp; omega), List.getD_eq_getElem?_getD, List.getElem?_eq_getElem (by simp; omega)]
    exact hD _ (List.getElem_mem _))
  have DX := Ak (show (P ++ x :: (R ++ S)).getD a 0 = x from getD_mid 0 P x _ ha)
  have FND := Ak (fun i (s : Bs1 κ 0 (P ++ x :: (R ++ S)) x m b i i) => Bs1.found (S := S) (show m = P.length + 1 by omega) hb hs s)
  have ST := Ak (show Bs1 κ 0 (P ++ x :: (R ++ S)) x m b m b from ⟨Nat.le_refl _, by omega, Nat.le_refl _, .inl rfl, .inl rfl⟩)
  have wm : wrap64 ((m : Int) - (a : Int)) = 1 := wsub (x := m) (y := a) (z := 1) (by omega) (by omega)
  have wm2 : IntKind.i64.wrap ((m : Int) - (a : Int)) = 1 := (i64_w _).trans wm
  have HAM := Ak (show m = a + 1 ∧ m ≤ b ∧ a = P.length by omega)
  clear hR hlen hl hC hD hDx hb hs ha hm
  generalize P ++ x :: (R ++ S) = d at HO ST DD DX FND
  go_enter Tryd.func75, Tryd.ntmps75
  go_wp2
  go_loopw [10, 11] (fun v10 v11 w' => ∃ (i j : Nat), v10 = .int .i64 (i : Int) ∧ v11 = .int .i64 (j : Int) ∧ Aside0 (Kd.R (Kd.int .i64) 3 w' base ok (.slice (some ⟨go, 0, none⟩) len cap) d) ∧ Aside0 (W0.grownBy w' (some go)) ∧ Aside0 (Bs1 κ 0 d x m b i j))
    (fun v10 v11 _ => (intOf v11).toNat - (intOf v10).toNat)
  case atStart => exact ⟨m, b, rfl, rfl, HO, HG, ST⟩
  case round =>
    clear HO HG ST wm wm2
    obtain ⟨i, j, rfl, rfl, HO, HG, ST⟩ := hrel
    have hst := ST.out
    have hlen := HLEN.out
    have ham := HAM.out
    by_cases hij : i < j
    · have q0 := eq_true (show (i : Int) < (j : Int) by omega)
      have q00 := eq_true hij
      have hmi := hst.1
      have hjb := hst.2.2.1
      clear hst
      obtain ⟨sj, hsj⟩ : ∃ sj, i + j = sj := ⟨_, rfl⟩
      have bsj : sj ≤ 4503599627370496 := by omega
      obtain ⟨hh, hhh⟩ : ∃ hh, sj / 2 = hh := ⟨_, rfl⟩
      have bhh : hh ≤ 4503599627370496 := by omega
      have h1 : i ≤ hh := by omega
      have h2 : hh < j := by omega
      obtain ⟨h3, hh3⟩ : ∃ h3, hh + 1 = h3 := ⟨_, rfl⟩
      have bh3 : h3 ≤ 4503599627370496 := by omega
      have phh := eq_true (show (0 : Int) ≤ (hh : Int) by omega)
      have phh1 := eq_true (show (hh : Int) < (len : Int) by omega)
      have phh2 := eq_true (show hh < len by omega)
      have Lhh := Ak (show hh < len by omega)
      have pa := eq_true (show (0 : Int) ≤ (a : Int) by omega)
      have pa1 := eq_true (show (a : Int) < (len : Int) by omega)
      have pa2 := eq_true (show a < len by omega)
      have La := Ak (show a < len by omega)
      obtain ⟨y, hy⟩ : ∃ y, d.getD hh 0 = y := ⟨_, rfl⟩
      have DY := Ak (show Dm y from hy ▸ DD.out hh (by omega) (by omega))
      have Rhh := Ak (show rd d (hh : Int) = y from hy)
      have Ra := Ak (show rd d (a : Int) = x from DX.out)
      have SLO := Ak (fun h : κ y < κ x => (show Bs1 κ 0 d x m b h3 j from hh3 ▸ ST.out.lo h1 h2 (by rw [hy]; exact h)))
      have SHI := Ak (fun h : ¬ κ y < κ x => ST.out.hi h1 h2 (by rw [hy]; exact h))
      have MS := Ak (show j - h3 < j - i ∧ hh - i < j - i by omega)
      have wh1 : wrap64 ((i : Int) + (j : Int)) = (sj : Int) := wadd hsj bsj
      have wh2 : IntKind.i64.wrap ((i : Int) + (j : Int)) = (sj : Int) := (i64_w _).trans wh1
      have wh3 : IntKind.u64.wrap (sj : Int) = (sj : Int) := u64_small bsj
      have wh4 : IntKind.i64.wrap (hh : Int) = (hh : Int) := i64_small bhh
      have wh5 : (sj : Int) / 2 = (hh : Int) := half_z hhh
      have wh3 : wrap64 ((hh : Int) + 1) = (h3 : Int) := wadd (x := hh) (y := 1) hh3 bh3
      have wh3q : IntKind.i64.wrap ((hh : Int) + 1) = (h3 : Int) := (i64_w _).trans wh3
      clear hlen ham hmi hjb hsj hhh bsj bhh hh3 bh3 h1 h2 hy hij
      go_wp2
      replace HO := Ak (Kd.R_drew HO.out)
      replace HG := Ak (grown_drew HG.out)
      have HXA := Ak (show wr.drew.cell? ⟨go, hh, none⟩ = some (.int .i64 y) from by have h := (row_at HO.out hh Lhh.out).1; rwa [Rhh.out] at h)
      have HXB := Ak (show wr.drew.cell? ⟨go, a, none⟩ = some (.int .i64 x) from by have h := (row_at HO.out a La.out).1; rwa [Ra.out] at h)
      refine start_ (n := 11) (S := fun w' => w'.cell? ⟨go, hh, none⟩ = some (.int .i64 y) ∧ w'.cell? ⟨go, a, none⟩ = some (.int .i64 x)) (ds := []) #[false, false, false, false, false, false, false, false, false, false, false] (by kernel_rfl) rfl rfl ⟨HXA.out, HXB.out⟩ (fun hHeld => ?_)
      generalize wr.drew = wd at HO HG HXA HXB hHeld ⊢
      refine pq_ (i := 0) (N := some 40) ?_
      refine pq_ (i := 1) (N := some 41) ?_
      refine pq_ (i := 2) (N := some 42) ?_
      refine pq_ (i := 3) (N := some 43) ?_
      refine pq_ (i := 5) (N := some 45) ?_
      refine pq_ (i := 6) (N := some 46) ?_
      refine pq_ (i := 7) (N := some 47) ?_
      refine tq_ (i := 4) (N := some 44) ?_ hHeld
      refine tq_ (i := 8) (N := some 48) ?_ hHeld
      refine one_ (i := 9) (N := some 49) #[true, true, true, true, true, true, true, true, true, true, false] rfl rfl (by kernel_rfl) (by decide) (fun K hK => ?_)
      refine goesC_ Tryd.func70 (by kernel_rfl) rfl (x := (.tmp 40)) (lb := #[.pointer (some ⟨g3, 0, none⟩)]) #[.int .i64 y, .int .i64 x] (by rfl) rfl rfl rfl (by simp only [List.map_toArray, List.map_cons, List.map_nil]; rfl) (all := #[.int .i64 y, .int .i64 x, .pointer (some ⟨g3, 0, none⟩)]) rfl ?_
      with_reducible refine (HC.out.call HG.out DY.out HDX.out).mono ?_
      rintro e w5 ⟨zz, rfl, hz, hd⟩
      refine ⟨_, rfl, ?_⟩
      obtain ⟨nd, rfl⟩ := hd.out
      have HZ := Ak hz
      clear hd hz
      refine hK.out _ _ ⟨HXA.out, HXB.out⟩ (fun hHeld => ?_)
      clear hK K
      refine norm_ (a' := ?_) ?_ ?_
      rotate_left
      · show Act.put _ (some 49) _ = _
        simp only [Act.put, List.setIfInBounds_toArray, List.set_cons_zero, List.set_cons_succ, i64_w, i32_w, u8_w]
        rfl
      refine pq_ (i := 10) (N := some 50) ?_
      refine done_ (by kernel_rfl) ?_
      have HO5 := Ak (Kd.R_drewN HO.out nd)
      have HG5 := Ak (grown_drawn HG.out ⟨⟨nd, rfl⟩⟩)
      clear HO HG HXA HXB hHeld
      generalize wd.drewN nd = we at HO5 HG5 ⊢
      by_cases hzz : zz < 0
      · have z2 : decide (zz < 0) = true := decide_eq_true hzz
        have ST2 := Ak (SLO.out (HZ.out.1 hzz))
        rw [z2]
        clear hzz HZ SLO SHI
        go_wp2
        go_roundw
        case rel => exact ⟨h3, j, rfl, rfl, HO5, HG5, ST2⟩
        case measure => have h1 := MS.out; simp [intOf]; omega
      have z2 : decide (zz < 0) = false := decide_eq_false hzz
      have ST2 : Aside0 (Bs1 κ 0 d x m b i hh) := ⟨by first | exact SHI.out (fun h => hzz (HZ.out.2 h)) | exact SHI.out (Int.not_lt.1 (fun h => hzz (HZ.out.2 h)))⟩
      rw [z2]
      clear hzz HZ SLO SHI
      go_wp2
      go_roundw
      case rel => exact ⟨i, hh, rfl, rfl, HO5, HG5, ST2⟩
      case measure => have h1 := MS.out; simp [intOf]; omega
    have q0 := eq_false (show ¬ (i : Int) < (j : Int) by omega)
    have q00 := eq_false hij
    obtain rfl : i = j := by have := hst.2.1; omega
    obtain ⟨f1, f2, f3⟩ := FND.out i ST.out
    obtain ⟨nn, hnn⟩ : ∃ nn, i - m = nn := ⟨_, rfl⟩
    rw [hnn] at f1 f2 f3
    obtain ⟨Z, hZ⟩ : ∃ Z, R.take nn ++ x :: R.drop nn = Z := ⟨_, rfl⟩
    rw [hZ] at f1 f2 f3
    have hmi := hst.1
    have hjb := hst.2.2.1
    clear hst hZ
    rw [← ham.2.2] at f3
    have F1 := Ak f1
    have F2 := Ak f2
    have F3 := Ak f3
    obtain ⟨ip, hip⟩ : ∃ ip, ip + 1 = i := ⟨i - 1, by omega⟩
    have bi : i ≤ 4503599627370496 := by omega
    have HIP := Ak (show ip = a + nn ∧ ip < len by omega)
    have wip : wrap64 ((i : Int) - 1) = (ip : Int) := wsub (x := i) (y := 1) (show 1 + ip = i by omega) bi
    have wipq : IntKind.i64.wrap ((i : Int) - 1) = (ip : Int) := (i64_w _).trans wip
    clear f1 f2 f3 hnn hip bi hmi hjb hlen ham hij
    go_wp2
    go_loopw [13] (fun v13 w' => ∃ c k : Nat, v13 = .int .i64 (k : Int) ∧ Aside0 (k = a + c ∧ k ≤ ip) ∧ Aside0 (Kd.R (Kd.int .i64) 3 w' base ok (.slice (some ⟨go, 0, none⟩) len cap) (shu 0 d a c)) ∧ Aside0 (W0.grownBy w' (some go)))
      (fun v13 _ => ip - (intOf v13).toNat)
    case atStart => exact ⟨0, a, rfl, ⟨by have := HIP.out; omega⟩, HO, HG⟩
    case round =>
      clear HO HG ST
      obtain ⟨c, k, rfl, HK, HO, HG⟩ := hrel
      have hk := HK.out
      have hip := HIP.out
      by_cases hki : k < ip
      rotate_left
      · have q1 := eq_false (show ¬ (k : Int) < (ip : Int) by omega)
        have q11 := eq_false hki
        have RES := Ak (show ∃ Z, Srt κ Z ∧ Stb κ (x :: R) Z ∧ Kd.R (Kd.int .i64) 3 wr base ok (.slice (some ⟨go, 0, none⟩) len cap) (P ++ Z ++ S) from ⟨Z, F1.out, F2.out, by rw [← F3.out, show nn = c by omega]; exact HO.out⟩)
        clear hk hip hki
        go_wp2
        ((try simp only [Exit.inBlock, Exit.then]); refine bodyPost_ret (results_none rfl _ _ _) rfl ?_)
        exact ⟨rfl, RES.out, HG.out⟩
      have q1 := eq_true (show (k : Int) < (ip : Int) by omega)
      have q11 := eq_true hki
      obtain ⟨k1, hk1⟩ : ∃ k1, k + 1 = k1 := ⟨_, rfl⟩
      have bk1 : k1 ≤ 4503599627370496 := by have := HLEN.out; omega
      have pk := eq_true (show (0 : Int) ≤ (k : Int) by omega)
      have pk1 := eq_true (show (k : Int) < (len : Int) by omega)
      have pk2 := eq_true (show k < len by omega)
      have Lk := Ak (show k < len by omega)
      have pk1 := eq_true (show (0 : Int) ≤ (k1 : Int) by omega)
      have pk11 := eq_true (show (k1 : Int) < (len : Int) by omega)
      have pk12 := eq_true (show k1 < len by omega)
      have Lk1 := Ak (show k1 < len by omega)
      have HS := Ak (show swp 0 (shu 0 d a c) k k1 = shu 0 d a (c + 1) by rw [shu, ← hk1, hk.1])
      obtain ⟨e, he⟩ : ∃ e, shu 0 d a c = e := ⟨_, rfl⟩
      rw [he] at HO HS
      have HK2 := Ak (show k1 = a + (c + 1) ∧ k1 ≤ ip by omega)
      have MS := Ak (show ip - k1 < ip - k by omega)
      have wk1 : wrap64 ((k : Int) + 1) = (k1 : Int) := wadd (x := k) (y := 1) hk1 bk1
      have wk1q : IntKind.i64.wrap ((k : Int) + 1) = (k1 : Int) := (i64_w _).trans wk1
      clear hk hip hki hk1 bk1 he
      go_wp2
      replace HO := Ak (Kd.R_drew HO.out)
      replace HG := Ak (grown_drew HG.out)
      refine start_ (n := 18) (S := fun w' => w'.cell? ⟨go, k1, none⟩ = some (.int .i64 (rd e (k1 : Int))) ∧ w'.cell? ⟨go, k, none⟩ = some (.int .i64 (rd e (k : Int)))) (ds := [15, 17]) #[false, false, false, false, false, false, false, false, false, false, false, false, false, false, false, false, false, false] (by kernel_rfl) rfl rfl ⟨(row_at HO.out k1 Lk1.out).1, (row_at HO.out k Lk.out).1⟩ (fun hHeld => ?_)
      generalize wr.drew = wf at HO HG hHeld ⊢
      refine pq_ (i := 0) (N := some 61) ?_
      refine pq_ (i := 1) (N := some 62) ?_
      refine pq_ (i := 2) (N := some 63) ?_
      refine pq_ (i := 3) (N := some 64) ?_
      refine pq_ (i := 4) (N := some 65) ?_
      refine pq_ (i := 5) (N := some 66) ?_
      refine pq_ (i := 6) (N := some 67) ?_
      refine pq_ (i := 7) (N := some 68) ?_
      refine pq_ (i := 8) (N := some 69) ?_
      refine pq_ (i := 10) (N := some 71) ?_
      refine pq_ (i := 11) (N := some 72) ?_
      refine pq_ (i := 12) (N := some 73) ?_
      refine tq_ (i := 9) (N := some 70) ?_ hHeld
      refine tq_ (i := 13) (N := some 74) ?_ hHeld
      refine pq_ (i := 14) (N := some 75) ?_
      refine last_ (i := 15) (N := none) #[true, true, true, true, true, true, true, true, true, true, true, true, true, true, true, true, false, false] rfl rfl (by kernel_rfl) (by decide) (fun K hK => ?_)
      obtain ⟨hz, hf⟩ := row_at HO.out k Lk.out
      refine skip_ (w1 := ?_) (by rfl) rfl ?_ ?_
      rotate_left
      · go_simp
        rfl
      refine hK.out _ _ ?_
      clear hK K
      refine pq_ (i := 16) (N := some 76) ?_
      refine last_ (i := 17) (N := none) #[true, true, true, true, true, true, true, true, true, true, true, true, true, true, true, true, true, true] rfl rfl (by kernel_rfl) (by decide) (fun K hK => ?_)
      obtain ⟨hz2, hf2⟩ := row_at (row_put HO.out k (rd e (k1 : Int))).1 k1 Lk1.out
      refine skip_ (w1 := ?_) (by rfl) rfl ?_ ?_
      rotate_left
      · go_simp
        rfl
      refine hK.out _ _ ?_
      clear hK K
      refine done_ (by kernel_rfl) ?_
      have h1 := row_put HO.out k (rd e (k1 : Int))
      have h2 := row_put h1.1 k1 (rd e (k : Int))
      have HO7 := Ak (show Kd.R (Kd.int .i64) 3 ((wf.setCell ⟨go, k, none⟩ (Value.int IntKind.i64 (rd e (k1 : Int)))).setCell ⟨go, k1, none⟩ (Value.int IntKind.i64 (rd e (k : Int)))) base ok (.slice (some ⟨go, 0, none⟩) len cap) (swp 0 e k k1) from h2.1)
      have HG7 := Ak (grown_trans (grown_trans HG.out h1.2) h2.2)
      clear h1 h2 HO HG hz hf hz2 hf2 hHeld
      generalize ((wf.setCell ⟨go, k, none⟩ (Value.int IntKind.i64 (rd e (k1 : Int)))).setCell ⟨go, k1, none⟩ (Value.int IntKind.i64 (rd e (k : Int)))) = wx at HO7 HG7 ⊢
      go_wp2
      go_roundw
      case rel => exact ⟨c + 1, k1, rfl, HK2, ⟨by rw [← HS.out]; exact HO7.out⟩, HG7⟩
      case measure => have h1 := MS.out; simp [intOf]; omega
end
section
attribute [local go_sem] Oper.semAt_some
theorem sym_last (κ : Int → Int) (Dm : Int → Prop) (g3 go base len cap a m b : Nat) (ok : Nat → Prop) (P L : List Int) (x : Int) (S : List Int) (W0 : World) (hR : Kd.R (Kd.int .i64) 3 W0 base ok (.slice (some ⟨go, 0, none⟩) len cap) (P ++ L ++ x :: S)) (ha : a = P.length) (hm : m = a + L.length) (hb : b = m + 1) (hll : 2 ≤ L.length) (hs : Srt κ L) (hl : len ≤ 1048576) (hDx : Dm x) (hD : ∀ x ∈ L, Dm x) (hC : CmpOk κ Dm g3 go W0) :
    Calls Tryd.prog 75 #[.slice (some ⟨go, 0, none⟩) len cap, .int .i64 (a : Int), .int .i64 (m : Int), .int .i64 (b : Int), .func (.func 70) #[] #[.pointer (some ⟨g3, 0, none⟩)]] W0 fun e W' => e = .returned (.tuple #[]) ∧ (∃ Z, Srt κ Z ∧ Stb κ (L ++ [x]) Z ∧ Kd.R (Kd.int .i64) 3 W' base ok (.slice (some ⟨go, 0, none⟩) len cap) (P ++ Z ++ S)) ∧ W0.grownBy W' (some go) := by
  have hlen := row_len hR
  simp only [List.length_append, List.length_cons] at hlen
  have HLEN := Ak (show b ≤ len ∧ len ≤ 1048576 ∧ m < len by omega)
  have HO := Ak hR
  have HG := Ak (World.grownBy.refl W0 (some go))
  have HC := Ak hC
  have HDX := Ak hDx
  have DD := Ak (show ∀ k, a ≤ k → k < m → Dm ((P ++ L ++ x :: S).getD k 0) from fun k h1 h2 => by
    rw [List.append_assoc, getD_app 0 _ _ k (by omega), getD_app_lt 0 L _ _ (by omega), List.getD_eq_getElem?_getD, List.getElem?_eq_getElem (by omega)]
    exact hD _ (List.getElem_mem _))
  have DX := Ak (show (P ++ L ++ x :: S).getD m 0 = x from getD_mid 0 (P ++ L) x S (by rw [List.length_append]; omega))
  have FND := Ak (fun i (s : Bs2 κ 0 (P ++ L ++ x :: S) x a m i i) => Bs2.found ha hm hs s)
  have ST := Ak (show Bs2 κ 0 (P ++ L ++ x :: S) x a m a m from ⟨Nat.le_refl _, by omega, Nat.le_refl _, .inl rfl, .inl rfl⟩)
  obtain ⟨ll, hll2⟩ : ∃ ll, a + ll = m := ⟨L.length, by omega⟩
  have bm : m ≤ 4503599627370496 := by omega
  have bb : b ≤ 4503599627370496 := by omega
  have wm : wrap64 ((m : Int) - (a : Int)) = (ll : Int) := wsub hll2 bm
  have wm2 : IntKind.i64.wrap ((m : Int) - (a : Int)) = (ll : Int) := (i64_w _).trans wm
  have wl1 : ((ll : Int) == 1) = false := beq_eq_false_iff_ne.mpr (by omega)
  have wl2 := eq_false (show ¬ (ll : Int) = 1 by omega)
  have wl3 := eq_false (show ¬ ll = 1 by omega)
  have wb : wrap64 ((b : Int) - (m : Int)) = 1 := wsub (x := b) (y := m) (z := 1) hb.symm bb
  have wb2 : IntKind.i64.wrap ((b : Int) - (m : Int)) = 1 := (i64_w _).trans wb
  have HAM := Ak (show a ≤ m ∧ b = m + 1 ∧ a = P.length by omega)
  clear hR hlen hl hC hD hDx hs hll hll2 bm bb ha hm hb
  generalize P ++ L ++ x :: S = d at HO ST DD DX FND
  go_enter Tryd.func75, Tryd.ntmps75
  go_wp2
  go_loopw [14, 15] (fun v10 v11 w' => ∃ (i j : Nat), v10 = .int .i64 (i : Int) ∧ v11 = .int .i64 (j : Int) ∧ Aside0 (Kd.R (Kd.int .i64) 3 w' base ok (.slice (some ⟨go, 0, none⟩) len cap) d) ∧ Aside0 (W0.grownBy w' (some go)) ∧ Aside0 (Bs2 κ 0 d x a m i j))
    (fun v10 v11 _ => (intOf v11).toNat - (intOf v10).toNat)
  case atStart => exact ⟨a, m, rfl, rfl, HO, HG, ST⟩
  case round =>
    clear HO HG ST wm wm2 wb wb2 wl1 wl2 wl3
    obtain ⟨i, j, rfl, rfl, HO, HG, ST⟩ := hrel
    have hst := ST.out
    have hlen := HLEN.out
    have ham := HAM.out
    by_cases hij : i < j
    · have q0 := eq_true (show (i : Int) < (j : Int) by omega)
      have q00 := eq_true hij
      have hmi := hst.1
      have hjb := hst.2.2.1
      clear hst
      obtain ⟨sj, hsj⟩ : ∃ sj, i + j = sj := ⟨_, rfl⟩
      have bsj : sj ≤ 4503599627370496 := by omega
      obtain ⟨hh, hhh⟩ : ∃ hh, sj / 2 = hh := ⟨_, rfl⟩
      have bhh : hh ≤ 4503599627370496 := by omega
      have h1 : i ≤ hh := by omega
      have h2 : hh < j := by omega
      obtain ⟨h3, hh3⟩ : ∃ h3, hh + 1 = h3 := ⟨_, rfl⟩
      have bh3 : h3 ≤ 4503599627370496 := by omega
      have phh := eq_true (show (0 : Int) ≤ (hh : Int) by omega)
      have phh1 := eq_true (show (hh : Int) < (len : Int) by omega)
      have phh2 := eq_true (show hh < len by omega)
      have Lhh := Ak (show hh < len by omega)
      have pm := eq_true (show (0 : Int) ≤ (m : Int) by omega)
      have pm1 := eq_true (show (m : Int) < (len : Int) by omega)
      have pm2 := eq_true (show m < len by omega)
      have Lm := Ak (show m < len by omega)
      obtain ⟨y, hy⟩ : ∃ y, d.getD hh 0 = y := ⟨_, rfl⟩
      have DY := Ak (show Dm y from hy ▸ DD.out hh (by omega) (by omega))
      have Rhh := Ak (show rd d (hh : Int) = y from hy)
      have Rm := Ak (show rd d (m : Int) = x from DX.out)
      have SLO := Ak (fun h : ¬ κ x < κ y => (show Bs2 κ 0 d x a m h3 j from hh3 ▸ ST.out.lo h1 h2 (by rw [hy]; exact h)))
      have SHI := Ak (fun h : κ x < κ y => ST.out.hi h1 h2 (by rw [hy]; exact h))
      have MS := Ak (show j - h3 < j - i ∧ hh - i < j - i by omega)
      have wh1 : wrap64 ((i : Int) + (j : Int)) = (sj : Int) := wadd hsj bsj
      have wh2 : IntKind.i64.wrap ((i : Int) + (j : Int)) = (sj : Int) := (i64_w _).trans wh1
      have wh3 : IntKind.u64.wrap (sj : Int) = (sj : Int) := u64_small bsj
      have wh4 : IntKind.i64.wrap (hh : Int) = (hh : Int) := i64_small bhh
      have wh5 : (sj : Int) / 2 = (hh : Int) := half_z hhh
      have wh3 : wrap64 ((hh : Int) + 1) = (h3 : Int) := wadd (x := hh) (y := 1) hh3 bh3
      have wh3q : IntKind.i64.wrap ((hh : Int) + 1) = (h3 : Int) := (i64_w _).trans wh3
      clear hlen ham hmi hjb hsj hhh bsj bhh hh3 bh3 h1 h2 hy hij
      go_wp2
      replace HO := Ak (Kd.R_drew HO.out)
      replace HG := Ak (grown_drew HG.out)
      have HXA := Ak (show wr.drew.cell? ⟨go, m, none⟩ = some (.int .i64 x) from by have h := (row_at HO.out m Lm.out).1; rwa [Rm.out] at h)
      have HXB := Ak (show wr.drew.cell? ⟨go, hh, none⟩ = some (.int .i64 y) from by have h := (row_at HO.out hh Lhh.out).1; rwa [Rhh.out] at h)
      refine start_ (n := 12) (S := fun w' => w'.cell? ⟨go, m, none⟩ = some (.int .i64 x) ∧ w'.cell? ⟨go, hh, none⟩ = some (.int .i64 y)) (ds := []) #[false, false, false, false, false, false, false, false, false, false, false, false] (by kernel_rfl) rfl rfl ⟨HXA.out, HXB.out⟩ (fun hHeld => ?_)
      generalize wr.drew = wd at HO HG HXA HXB hHeld ⊢
      refine pq_ (i := 0) (N := some 92) ?_
      refine pq_ (i := 1) (N := some 93) ?_
      refine pq_ (i := 2) (N := some 94) ?_
      refine pq_ (i := 3) (N := some 95) ?_
      refine pq_ (i := 5) (N := some 97) ?_
      refine pq_ (i := 6) (N := some 98) ?_
      refine pq_ (i := 7) (N := some 99) ?_
      refine tq_ (i := 4) (N := some 96) ?_ hHeld
      refine tq_ (i := 8) (N := some 100) ?_ hHeld
      refine one_ (i := 9) (N := some 101) #[true, true, true, true, true, true, true, true, true, true, false, false] rfl rfl (by kernel_rfl) (by decide) (fun K hK => ?_)
      refine goesC_ Tryd.func70 (by kernel_rfl) rfl (x := (.tmp 92)) (lb := #[.pointer (some ⟨g3, 0, none⟩)]) #[.int .i64 x, .int .i64 y] (by rfl) rfl rfl rfl (by simp only [List.map_toArray, List.map_cons, List.map_nil]; rfl) (all := #[.int .i64 x, .int .i64 y, .pointer (some ⟨g3, 0, none⟩)]) rfl ?_
      with_reducible refine (HC.out.call HG.out HDX.out DY.out).mono ?_
      rintro e w5 ⟨zz, rfl, hz, hd⟩
      refine ⟨_, rfl, ?_⟩
      obtain ⟨nd, rfl⟩ := hd.out
      have HZ := Ak hz
      clear hd hz
      refine hK.out _ _ ⟨HXA.out, HXB.out⟩ (fun hHeld => ?_)
      clear hK K
      refine norm_ (a' := ?_) ?_ ?_
      rotate_left
      · show Act.put _ (some 101) _ = _
        simp only [Act.put, List.setIfInBounds_toArray, List.set_cons_zero, List.set_cons_succ, i64_w, i32_w, u8_w]
        rfl
      refine pq_ (i := 10) (N := some 102) ?_
      refine pq_ (i := 11) (N := some 103) ?_
      refine done_ (by kernel_rfl) ?_
      have HO5 := Ak (Kd.R_drewN HO.out nd)
      have HG5 := Ak (grown_drawn HG.out ⟨⟨nd, rfl⟩⟩)
      clear HO HG HXA HXB hHeld
      generalize wd.drewN nd = we at HO5 HG5 ⊢
      by_cases hzz : zz < 0
      · have z2 : decide (zz < 0) = true := decide_eq_true hzz
        have ST2 := Ak (SHI.out (HZ.out.1 hzz))
        rw [z2]
        clear hzz HZ SLO SHI
        go_wp2
        go_roundw
        case rel => exact ⟨i, hh, rfl, rfl, HO5, HG5, ST2⟩
        case measure => have h1 := MS.out; simp [intOf]; omega
      have z2 : decide (zz < 0) = false := decide_eq_false hzz
      have ST2 : Aside0 (Bs2 κ 0 d x a m h3 j) := ⟨by first | exact SLO.out (fun h => hzz (HZ.out.2 h)) | exact SLO.out (Int.not_lt.1 (fun h => hzz (HZ.out.2 h)))⟩
      rw [z2]
      clear hzz HZ SLO SHI
      go_wp2
      go_roundw
      case rel => exact ⟨h3, j, rfl, rfl, HO5, HG5, ST2⟩
      case measure => have h1 := MS.out; simp [intOf]; omega
    have q0 := eq_false (show ¬ (i : Int) < (j : Int) by omega)
    have q00 := eq_false hij
    obtain rfl : i = j := by have := hst.2.1; omega
    obtain ⟨f1, f2, f3⟩ := FND.out i ST.out
    obtain ⟨Z, hZ⟩ : ∃ Z, L.take (i - a) ++ x :: L.drop (i - a) = Z := ⟨_, rfl⟩
    rw [hZ] at f1 f2 f3
    have hmi := hst.1
    have hjb := hst.2.2.1
    clear hst hZ
    have F1 := Ak f1
    have F2 := Ak f2
    have F3 := Ak f3
    have HIM := Ak (show i ≤ m ∧ a ≤ i by omega)
    clear f1 f2 f3 hmi hjb hlen ham hij
    go_wp2
    go_loopw [17] (fun v13 w' => ∃ c k : Nat, v13 = .int .i64 (k : Int) ∧ Aside0 (k + c = m ∧ i ≤ k) ∧ Aside0 (Kd.R (Kd.int .i64) 3 w' base ok (.slice (some ⟨go, 0, none⟩) len cap) (shd 0 d m c)) ∧ Aside0 (W0.grownBy w' (some go)))
      (fun v13 _ => (intOf v13).toNat)
    case atStart => exact ⟨0, m, rfl, ⟨by have := HIM.out; omega⟩, HO, HG⟩
    case round =>
      clear HO HG ST
      obtain ⟨c, k, rfl, HK, HO, HG⟩ := hrel
      have hk := HK.out
      have him := HIM.out
      have hlen := HLEN.out
      by_cases hki : i < k
      rotate_left
      · have q1 := eq_false (show ¬ (i : Int) < (k : Int) by omega)
        have q11 := eq_false hki
        have RES := Ak (show ∃ Z, Srt κ Z ∧ Stb κ (L ++ [x]) Z ∧ Kd.R (Kd.int .i64) 3 wr base ok (.slice (some ⟨go, 0, none⟩) len cap) (P ++ Z ++ S) from ⟨Z, F1.out, F2.out, by rw [← F3.out, show m - i = c by omega]; exact HO.out⟩)
        clear hk him hki hlen
        go_wp2
        ((try simp only [Exit.inBlock, Exit.then]); refine bodyPost_ret (results_none rfl _ _ _) rfl ?_)
        exact ⟨rfl, RES.out, HG.out⟩
      have q1 := eq_true (show (i : Int) < (k : Int) by omega)
      have q11 := eq_true hki
      obtain ⟨kp, hkp⟩ : ∃ kp, 1 + kp = k := ⟨k - 1, by omega⟩
      have bk : k ≤ 4503599627370496 := by omega
      have pk := eq_true (show (0 : Int) ≤ (k : Int) by omega)
      have pk1 := eq_true (show (k : Int) < (len : Int) by omega)
      have pk2 := eq_true (show k < len by omega)
      have Lk := Ak (show k < len by omega)
      have pkp := eq_true (show (0 : Int) ≤ (kp : Int) by omega)
      have pkp1 := eq_true (show (kp : Int) < (len : Int) by omega)
      have pkp2 := eq_true (show kp < len by omega)
      have Lkp := Ak (show kp < len by omega)
      have HS := Ak (show swp 0 (shd 0 d m c) k kp = shd 0 d m (c + 1) by rw [shd, show m - c = k by omega, show k - 1 = kp by omega])
      obtain ⟨e, he⟩ : ∃ e, shd 0 d m c = e := ⟨_, rfl⟩
      rw [he] at HO HS
      have HK2 := Ak (show kp + (c + 1) = m ∧ i ≤ kp by omega)
      have MS := Ak (show kp < k by omega)
      have wkp : wrap64 ((k : Int) - 1) = (kp : Int) := wsub (x := k) (y := 1) hkp bk
      have wkpq : IntKind.i64.wrap ((k : Int) - 1) = (kp : Int) := (i64_w _).trans wkp
      clear hk him hki hkp bk he hlen
      go_wp2
      replace HO := Ak (Kd.R_drew HO.out)
      replace HG := Ak (grown_drew HG.out)
      refine start_ (n := 18) (S := fun w' => w'.cell? ⟨go, kp, none⟩ = some (.int .i64 (rd e (kp : Int))) ∧ w'.cell? ⟨go, k, none⟩ = some (.int .i64 (rd e (k : Int)))) (ds := [15, 17]) #[false, false, false, false, false, false, false, false, false, false, false, false, false, false, false, false, false, false] (by kernel_rfl) rfl rfl ⟨(row_at HO.out kp Lkp.out).1, (row_at HO.out k Lk.out).1⟩ (fun hHeld => ?_)
      generalize wr.drew = wf at HO HG hHeld ⊢
      refine pq_ (i := 0) (N := some 113) ?_
      refine pq_ (i := 1) (N := some 114) ?_
      refine pq_ (i := 2) (N := some 115) ?_
      refine pq_ (i := 3) (N := some 116) ?_
      refine pq_ (i := 4) (N := some 117) ?_
      refine pq_ (i := 5) (N := some 118) ?_
      refine pq_ (i := 6) (N := some 119) ?_
      refine pq_ (i := 7) (N := some 120) ?_
      refine pq_ (i := 8) (N := some 121) ?_
      refine pq_ (i := 10) (N := some 123) ?_
      refine pq_ (i := 11) (N := some 124) ?_
      refine pq_ (i := 12) (N := some 125) ?_
      refine tq_ (i := 9) (N := some 122) ?_ hHeld
      refine tq_ (i := 13) (N := some 126) ?_ hHeld
      refine pq_ (i := 14) (N := some 127) ?_
      refine last_ (i := 15) (N := none) #[true, true, true, true, true, true, true, true, true, true, true, true, true, true, true, true, false, false] rfl rfl (by kernel_rfl) (by decide) (fun K hK => ?_)
      obtain ⟨hz, hf⟩ := row_at HO.out k Lk.out
      refine skip_ (w1 := ?_) (by rfl) rfl ?_ ?_
      rotate_left
      · go_simp
        rfl
      refine hK.out _ _ ?_
      clear hK K
      refine pq_ (i := 16) (N := some 128) ?_
      refine last_ (i := 17) (N := none) #[true, true, true, true, true, true, true, true, true, true, true, true, true, true, true, true, true, true] rfl rfl (by kernel_rfl) (by decide) (fun K hK => ?_)
      obtain ⟨hz2, hf2⟩ := row_at (row_put HO.out k (rd e (kp : Int))).1 kp Lkp.out
      refine skip_ (w1 := ?_) (by rfl) rfl ?_ ?_
      rotate_left
      · go_simp
        rfl
      refine hK.out _ _ ?_
      clear hK K
      refine done_ (by kernel_rfl) ?_
      have h1 := row_put HO.out k (rd e (kp : Int))
      have h2 := row_put h1.1 kp (rd e (k : Int))
      have HO7 := Ak (show Kd.R (Kd.int .i64) 3 ((wf.setCell ⟨go, k, none⟩ (Value.int IntKind.i64 (rd e (kp : Int)))).setCell ⟨go, kp, none⟩ (Value.int IntKind.i64 (rd e (k : Int)))) base ok (.slice (some ⟨go, 0, none⟩) len cap) (swp 0 e k kp) from h2.1)
      have HG7 := Ak (grown_trans (grown_trans HG.out h1.2) h2.2)
      clear h1 h2 HO HG hz hf hz2 hf2 hHeld
      generalize ((wf.setCell ⟨go, k, none⟩ (Value.int IntKind.i64 (rd e (kp : Int)))).setCell ⟨go, kp, none⟩ (Value.int IntKind.i64 (rd e (k : Int)))) = wx at HO7 HG7 ⊢
      go_wp2
      go_roundw
      case rel => exact ⟨c + 1, kp, rfl, HK2, ⟨by rw [← HS.out]; exact HO7.out⟩, HG7⟩
      case measure => have h1 := MS.out; simp [intOf]; omega
end
end Go.Proofs.YtgflkkjhckcipaaDoor.Hu

-- YtgflkkjhckcipaaDoorSo3
namespace Go.Proofs.YtgflkkjhckcipaaDoor.Hu
open Go.RowKit Go.Shelf Go.Proofs.YtgflkkjhckcipaaDoorW.PrintWords Go.Proofs.YtgflkkjhckcipaaDoorW.PrintLast Go.Proofs.YtgflkkjhckcipaaDoorW.PrintMore
set_option linter.unusedVariables false
set_option linter.unusedSimpArgs false
def SymOk (κ : Int → Int) (Dm : Int → Prop) (g3 go base len cap : Nat) (ok : Nat → Prop) (a m b : Nat) : Prop := ∀ (P L R S : List Int) (W0 : World), Kd.R (Kd.int .i64) 3 W0 base ok (.slice (some ⟨go, 0, none⟩) len cap) (P ++ L ++ R ++ S) → a = P.length → m = a + L.length → b = m + R.length → 1 ≤ L.length → 1 ≤ R.length → Srt κ L → Srt κ R → len ≤ 1048576 → (∀ x ∈ L, Dm x) → (∀ x ∈ R, Dm x) → CmpOk κ Dm g3 go W0 →
  Calls Tryd.prog 75 #[.slice (some ⟨go, 0, none⟩) len cap, .int .i64 (a : Int), .int .i64 (m : Int), .int .i64 (b : Int), .func (.func 70) #[] #[.pointer (some ⟨g3, 0, none⟩)]] W0 fun e W' => e = .returned (.tuple #[]) ∧ (∃ Z, Srt κ Z ∧ Stb κ (L ++ R) Z ∧ Kd.R (Kd.int .i64) 3 W' base ok (.slice (some ⟨go, 0, none⟩) len cap) (P ++ Z ++ S)) ∧ W0.grownBy W' (some go)
theorem SymOk.call {κ : Int → Int} {Dm : Int → Prop} {g3 go base len cap : Nat} {ok : Nat → Prop} {a m b : Nat} (h : SymOk κ Dm g3 go base len cap ok a m b) (P L R S : List Int) (W0 : World) (hR : Kd.R (Kd.int .i64) 3 W0 base ok (.slice (some ⟨go, 0, none⟩) len cap) (P ++ L ++ R ++ S)) (ha : a = P.length) (hm : m = a + L.length) (hb : b = m + R.length) (hl1 : 1 ≤ L.length) (hr1 : 1 ≤ R.length) (hsL : Srt κ L) (hsR : Srt κ R) (hl : len ≤ 1048576) (hDL : ∀ x ∈ L, Dm x) (hDR : ∀ x ∈ R, Dm x) (hC : CmpOk κ Dm g3 go W0) :
  Calls Tryd.prog 75 #[.slice (some ⟨go, 0, none⟩) len cap, .int .i64 (a : Int), .int .i64 (m : Int), .int .i64 (b : Int), .func (.func 70) #[] #[.pointer (some ⟨g3, 0, none⟩)]] W0 fun e W' => e = .returned (.tuple #[]) ∧ (∃ Z, Srt κ Z ∧ Stb κ (L ++ R) Z ∧ Kd.R (Kd.int .i64) 3 W' base ok (.slice (some ⟨go, 0, none⟩) len cap) (P ++ Z ++ S)) ∧ W0.grownBy W' (some go) := h P L R S W0 hR ha hm hb hl1 hr1 hsL hsR hl hDL hDR hC
end Go.Proofs.YtgflkkjhckcipaaDoor.Hu

-- YtgflkkjhckcipaaDoorSo4
namespace Go.Proofs.YtgflkkjhckcipaaDoor.Hu
open Go.RowKit Go.Shelf Go.Proofs.YtgflkkjhckcipaaDoorW.PrintWords Go.Proofs.YtgflkkjhckcipaaDoorW.PrintLast Go.Proofs.YtgflkkjhckcipaaDoorW.PrintMore
set_option linter.unusedVariables false
set_option linter.unusedSimpArgs false
section
attribute [local go_sem] Oper.semAt_some
theorem sym_main1 (κ : Int → Int) (Dm : Int → Prop) (g3 go base len cap a m b mid p s0 r0 n0 ll lr sab : Nat) (ok : Nat → Prop) (P L R S d : List Int) (W0 : World) (hR : Kd.R (Kd.int .i64) 3 W0 base ok (.slice (some ⟨go, 0, none⟩) len cap) d)
    (bsab : sab ≤ 4503599627370496) (hsab : a + b = sab) (hmid : sab / 2 = mid) (bmid : mid ≤ 4503599627370496) (hn0 : mid + m = n0) (bn0 : n0 ≤ 4503599627370496) (hp : 1 + p = n0) (hll : a + ll = m) (hlr : m + lr = b) (bm : m ≤ 4503599627370496) (bb : b ≤ 4503599627370496) (hl1 : ll ≠ 1) (hr1 : lr ≠ 1)
    (hc : mid < m ∧ b + s0 = n0 ∧ r0 = mid) (HN : Aside0 (a = P.length ∧ a < m ∧ m < b ∧ mid < b ∧ a < mid ∧ b ≤ len ∧ len ≤ 1048576 ∧ mid + m = n0 ∧ 1 + p = n0 ∧ n0 ≤ 4503599627370496 ∧ r0 ≤ m ∧ p ≤ 4503599627370496))
    (ST : Aside0 (Bs3 κ 0 d p s0 r0 s0 r0))
    (HB : Aside0 (∀ i j c : Nat, Bs3 κ 0 d p s0 r0 i j → i < j → c = (i + j) / 2 → i ≤ c ∧ c < j ∧ c ≤ p ∧ m ≤ p - c ∧ p - c < b ∧ a ≤ c ∧ c < b))
    (DD : Aside0 (∀ k, a ≤ k → k < b → Dm (d.getD k 0)))
    (TAIL : Aside0 (∀ st en : Nat, en = mid + m - st → Bs3 κ 0 d p s0 r0 st st → ∃ L1 L2 R1 R2 : List Int, (a ≤ st ∧ st ≤ m ∧ m ≤ en ∧ en ≤ b ∧ st + en = mid + m) ∧ d = P ++ L1 ++ L2 ++ R1 ++ (R2 ++ S) ∧ (L1.length = st - a ∧ L2.length = m - st ∧ R1.length = en - m ∧ R2.length = b - en) ∧ (Srt κ L1 ∧ Srt κ L2 ∧ Srt κ R1 ∧ Srt κ R2) ∧ ((∀ x ∈ L1, Dm x) ∧ (∀ x ∈ L2, Dm x) ∧ (∀ x ∈ R1, Dm x) ∧ (∀ x ∈ R2, Dm x)) ∧
      (∀ Z1 Z2, Srt κ Z1 → Stb κ (L1 ++ R1) Z1 → Srt κ Z2 → Stb κ (L2 ++ R2) Z2 → Srt κ (Z1 ++ Z2) ∧ Stb κ (L ++ R) (Z1 ++ Z2))))
    (HC : Aside0 (CmpOk κ Dm g3 go W0)) (HIH : Aside0 (∀ a' m' b' : Nat, b' - a' < b - a → SymOk κ Dm g3 go base len cap ok a' m' b')) :
    Calls Tryd.prog 75 #[.slice (some ⟨go, 0, none⟩) len cap, .int .i64 (a : Int), .int .i64 (m : Int), .int .i64 (b : Int), .func (.func 70) #[] #[.pointer (some ⟨g3, 0, none⟩)]] W0 fun e W' => e = .returned (.tuple #[]) ∧ (∃ Z, Srt κ Z ∧ Stb κ (L ++ R) Z ∧ Kd.R (Kd.int .i64) 3 W' base ok (.slice (some ⟨go, 0, none⟩) len cap) (P ++ Z ++ S)) ∧ W0.grownBy W' (some go) := by
  have HO := Ak hR
  have HG := Ak (World.grownBy.refl W0 (some go))
  clear hR
  have wl1 : ((ll : Int) == 1) = false := beq_eq_false_iff_ne.mpr (by omega)
  have wl2 := eq_false (show ¬ (ll : Int) = 1 by omega)
  have wl3 := eq_false (show ¬ ll = 1 by omega)
  have wr1 : ((lr : Int) == 1) = false := beq_eq_false_iff_ne.mpr (by omega)
  have wr2 := eq_false (show ¬ (lr : Int) = 1 by omega)
  have wr3 := eq_false (show ¬ lr = 1 by omega)
  obtain ⟨c1, hs0, c3⟩ := hc
  have q1 := eq_true (show (mid : Int) < (m : Int) by omega)
  have q2 := eq_true c1
  have c3s := c3.symm
  subst c3s
  have ws1 : wrap64 ((n0 : Int) - (b : Int)) = (s0 : Int) := wsub hs0 bn0
  have ws2 : IntKind.i64.wrap ((n0 : Int) - (b : Int)) = (s0 : Int) := (i64_w _).trans ws1
  have HMM := Ak c1
  have wm : wrap64 ((m : Int) - (a : Int)) = (ll : Int) := wsub hll bm
  have wmq : IntKind.i64.wrap ((m : Int) - (a : Int)) = (ll : Int) := (i64_w _).trans wm
  have wb : wrap64 ((b : Int) - (m : Int)) = (lr : Int) := wsub hlr bb
  have wbq : IntKind.i64.wrap ((b : Int) - (m : Int)) = (lr : Int) := (i64_w _).trans wb
  have wh1 : wrap64 ((a : Int) + (b : Int)) = (sab : Int) := wadd hsab bsab
  have wh2 : IntKind.i64.wrap ((a : Int) + (b : Int)) = (sab : Int) := (i64_w _).trans wh1
  have wh3 : IntKind.u64.wrap (sab : Int) = (sab : Int) := u64_small bsab
  have wh4 : IntKind.i64.wrap (mid : Int) = (mid : Int) := i64_small bmid
  have wh5 : (sab : Int) / 2 = (mid : Int) := half_z hmid
  have wn1 : wrap64 ((mid : Int) + (m : Int)) = (n0 : Int) := wadd hn0 bn0
  have wn2 : IntKind.i64.wrap ((mid : Int) + (m : Int)) = (n0 : Int) := (i64_w _).trans wn1
  have wp1 : wrap64 ((n0 : Int) - 1) = (p : Int) := wsub (x := n0) (y := 1) hp bn0
  have wp2 : IntKind.i64.wrap ((n0 : Int) - 1) = (p : Int) := (i64_w _).trans wp1
  clear hll hlr hsab hmid hn0 hp bsab bmid bn0 bm bb hl1 hr1 c1 hs0
  go_enter Tryd.func75, Tryd.ntmps75
  go_wp2
  go_loopw [20, 21] (fun v10 v11 w' => ∃ (i j : Nat), v10 = .int .i64 (i : Int) ∧ v11 = .int .i64 (j : Int) ∧ Aside0 (Kd.R (Kd.int .i64) 3 w' base ok (.slice (some ⟨go, 0, none⟩) len cap) d) ∧ Aside0 (W0.grownBy w' (some go)) ∧ Aside0 (Bs3 κ 0 d p s0 mid i j))
    (fun v10 v11 _ => (intOf v11).toNat - (intOf v10).toNat)
  case atStart => exact ⟨s0, mid, rfl, rfl, HO, HG, ST⟩
  case round =>
    clear HO HG ST wl1 wl2 wl3 wr1 wr2 wr3 wm wmq wb wbq wh1 wh2 wh3 wh4 wh5 wn1 wn2 wp1 wp2 q1 q2 ws1 ws2
    obtain ⟨i, j, rfl, rfl, HO, HG, ST⟩ := hrel
    have hn := HN.out
    have hij0 := ST.out.2.1
    by_cases hij : i < j
    · have q0 := eq_true (show (i : Int) < (j : Int) by omega)
      have q00 := eq_true hij
      have hjb := ST.out.2.2.1
      obtain ⟨sj, hsj⟩ : ∃ sj, i + j = sj := ⟨_, rfl⟩
      have bsj : sj ≤ 4503599627370496 := by omega
      obtain ⟨hh, hhh⟩ : ∃ hh, sj / 2 = hh := ⟨_, rfl⟩
      have bhh : hh ≤ 4503599627370496 := by omega
      obtain ⟨h1, h2, k1, k2, k3, k4, k5⟩ := HB.out i j hh ST.out hij (by rw [hsj, hhh])
      obtain ⟨pc, hpc⟩ : ∃ pc, hh + pc = p := ⟨p - hh, by omega⟩
      have hpc2 : p - hh = pc := by omega
      rw [hpc2] at k2 k3
      obtain ⟨lenle, len52, bp⟩ : b ≤ len ∧ len ≤ 1048576 ∧ p ≤ 4503599627370496 := ⟨hn.2.2.2.2.2.1, hn.2.2.2.2.2.2.1, hn.2.2.2.2.2.2.2.2.2.2.2⟩
      obtain ⟨h3, hh3⟩ : ∃ h3, hh + 1 = h3 := ⟨_, rfl⟩
      have bh3 : h3 ≤ 4503599627370496 := by omega
      have phh := eq_true (show (0 : Int) ≤ (hh : Int) by omega)
      have phh1 := eq_true (show (hh : Int) < (len : Int) by omega)
      have phh2 := eq_true (show hh < len by omega)
      have Lhh := Ak (show hh < len by omega)
      have ppc := eq_true (show (0 : Int) ≤ (pc : Int) by omega)
      have ppc1 := eq_true (show (pc : Int) < (len : Int) by omega)
      have ppc2 := eq_true (show pc < len by omega)
      have Lpc := Ak (show pc < len by omega)
      obtain ⟨y, hy⟩ : ∃ y, d.getD hh 0 = y := ⟨_, rfl⟩
      obtain ⟨x, hx⟩ : ∃ x, d.getD pc 0 = x := ⟨_, rfl⟩
      have DY := Ak (show Dm y from hy ▸ DD.out hh k4 k5)
      have DX := Ak (show Dm x from hx ▸ DD.out pc (by omega) k3)
      have Rhh := Ak (show rd d (hh : Int) = y from hy)
      have Rpc := Ak (show rd d (pc : Int) = x from hx)
      have SLO := Ak (fun h : ¬ κ x < κ y => (show Bs3 κ 0 d p s0 mid h3 j from hh3 ▸ ST.out.lo h1 h2 (by rw [hpc2, hy, hx]; exact h)))
      have SHI := Ak (fun h : κ x < κ y => ST.out.hi h1 h2 (by rw [hpc2, hy, hx]; exact h))
      have MS := Ak (show j - h3 < j - i ∧ hh - i < j - i by omega)
      have wpc : wrap64 ((p : Int) - (hh : Int)) = (pc : Int) := wsub hpc bp
      have wpcq : IntKind.i64.wrap ((p : Int) - (hh : Int)) = (pc : Int) := (i64_w _).trans wpc
      have wh1 : wrap64 ((i : Int) + (j : Int)) = (sj : Int) := wadd hsj bsj
      have wh2 : IntKind.i64.wrap ((i : Int) + (j : Int)) = (sj : Int) := (i64_w _).trans wh1
      have wh3 : IntKind.u64.wrap (sj : Int) = (sj : Int) := u64_small bsj
      have wh4 : IntKind.i64.wrap (hh : Int) = (hh : Int) := i64_small bhh
      have wh5 : (sj : Int) / 2 = (hh : Int) := half_z hhh
      have wh3 : wrap64 ((hh : Int) + 1) = (h3 : Int) := wadd (x := hh) (y := 1) hh3 bh3
      have wh3q : IntKind.i64.wrap ((hh : Int) + 1) = (h3 : Int) := (i64_w _).trans wh3
      clear hn hij0 hjb hsj hhh bsj bhh hh3 bh3 h1 h2 k1 k2 k3 k4 k5 hpc hpc2 lenle len52 bp hy hx hij
      go_wp2
      replace HO := Ak (Kd.R_drew HO.out)
      replace HG := Ak (grown_drew HG.out)
      have HXA := Ak (show wr.drew.cell? ⟨go, pc, none⟩ = some (.int .i64 x) from by have h := (row_at HO.out pc Lpc.out).1; rwa [Rpc.out] at h)
      have HXB := Ak (show wr.drew.cell? ⟨go, hh, none⟩ = some (.int .i64 y) from by have h := (row_at HO.out hh Lhh.out).1; rwa [Rhh.out] at h)
      refine start_ (n := 14) (S := fun w' => w'.cell? ⟨go, pc, none⟩ = some (.int .i64 x) ∧ w'.cell? ⟨go, hh, none⟩ = some (.int .i64 y)) (ds := []) #[false, false, false, false, false, false, false, false, false, false, false, false, false, false] (by kernel_rfl) rfl rfl ⟨HXA.out, HXB.out⟩ (fun hHeld => ?_)
      generalize wr.drew = wd at HO HG HXA HXB hHeld ⊢
      refine pq_ (i := 0) (N := some 158) ?_
      refine pq_ (i := 1) (N := some 159) ?_
      refine pq_ (i := 2) (N := some 160) ?_
      refine pq_ (i := 3) (N := some 161) ?_
      refine pq_ (i := 4) (N := some 162) ?_
      refine pq_ (i := 5) (N := some 163) ?_
      refine pq_ (i := 7) (N := some 165) ?_
      refine pq_ (i := 8) (N := some 166) ?_
      refine pq_ (i := 9) (N := some 167) ?_
      refine tq_ (i := 6) (N := some 164) ?_ hHeld
      refine tq_ (i := 10) (N := some 168) ?_ hHeld
      refine one_ (i := 11) (N := some 169) #[true, true, true, true, true, true, true, true, true, true, true, true, false, false] rfl rfl (by kernel_rfl) (by decide) (fun K hK => ?_)
      refine goesC_ Tryd.func70 (by kernel_rfl) rfl (x := (.tmp 158)) (lb := #[.pointer (some ⟨g3, 0, none⟩)]) #[.int .i64 x, .int .i64 y] (by rfl) rfl rfl rfl (by simp only [List.map_toArray, List.map_cons, List.map_nil]; rfl) (all := #[.int .i64 x, .int .i64 y, .pointer (some ⟨g3, 0, none⟩)]) rfl ?_
      with_reducible refine (HC.out.call HG.out DX.out DY.out).mono ?_
      rintro e w5 ⟨zz, rfl, hz, hd⟩
      refine ⟨_, rfl, ?_⟩
      obtain ⟨nd, rfl⟩ := hd.out
      have HZ := Ak hz
      clear hd hz
      refine hK.out _ _ ⟨HXA.out, HXB.out⟩ (fun hHeld => ?_)
      clear hK K
      refine norm_ (a' := ?_) ?_ ?_
      rotate_left
      · show Act.put _ (some 169) _ = _
        simp only [Act.put, List.setIfInBounds_toArray, List.set_cons_zero, List.set_cons_succ, i64_w, i32_w, u8_w]
        rfl
      refine pq_ (i := 12) (N := some 170) ?_
      refine pq_ (i := 13) (N := some 171) ?_
      refine done_ (by kernel_rfl) ?_
      have HO5 := Ak (Kd.R_drewN HO.out nd)
      have HG5 := Ak (grown_drawn HG.out ⟨⟨nd, rfl⟩⟩)
      clear HO HG HXA HXB hHeld
      generalize wd.drewN nd = we at HO5 HG5 ⊢
      by_cases hzz : zz < 0
      · have z2 : decide (zz < 0) = true := decide_eq_true hzz
        have ST2 := Ak (SHI.out (HZ.out.1 hzz))
        rw [z2]
        clear hzz HZ SLO SHI
        go_wp2
        go_roundw
        case rel => exact ⟨i, hh, rfl, rfl, HO5, HG5, ST2⟩
        case measure => have h1 := MS.out; simp [intOf]; omega
      have z2 : decide (zz < 0) = false := decide_eq_false hzz
      have ST2 : Aside0 (Bs3 κ 0 d p s0 mid h3 j) := ⟨by first | exact SLO.out (fun h => hzz (HZ.out.2 h)) | exact SLO.out (Int.not_lt.1 (fun h => hzz (HZ.out.2 h)))⟩
      rw [z2]
      clear hzz HZ SLO SHI
      go_wp2
      go_roundw
      case rel => exact ⟨h3, j, rfl, rfl, HO5, HG5, ST2⟩
      case measure => have h1 := MS.out; simp [intOf]; omega
    have q0 := eq_false (show ¬ (i : Int) < (j : Int) by omega)
    have q00 := eq_false hij
    obtain rfl : i = j := by omega
    have hjb := ST.out.2.2.1
    obtain ⟨na, nam, nmb, nmidb, namid, nbl, nlen, nn0, np, bn0, nr0, _⟩ := hn
    obtain ⟨en, hen⟩ : ∃ en, i + en = n0 := ⟨n0 - i, by omega⟩
    obtain ⟨L1, L2, R1, R2, ⟨b1, b2, b3, b4, b5⟩, hd, ⟨n1, n2, n3, n4⟩, ⟨s1, s2, s3, s4⟩, ⟨d1, d2, d3, d4⟩, hz⟩ := TAIL.out i en (by omega) ST.out
    rw [hd] at HO
    have HMM2 := HMM.out
    have S1 := Ak s1
    have S2 := Ak s2
    have S3 := Ak s3
    have S4 := Ak s4
    have D1 := Ak d1
    have D2 := Ak d2
    have D3 := Ak d3
    have D4 := Ak d4
    have HZ := Ak hz
    clear s1 s2 s3 s4 d1 d2 d3 d4 hz hd hij hij0 ST TAIL HB DD HMM
    have HLEN := Ak nlen
    have EA := Ak na
    have EL1 := Ak (show i = a + L1.length by omega)
    have ER0 := Ak (show i = (P ++ L1).length by rw [List.length_append]; omega)
    have EL2 := Ak (show m = i + L2.length by omega)
    have ER1 := Ak (show en = m + R1.length by omega)
    have EM := Ak (show mid = i + R1.length by omega)
    have EE := Ak (show en = mid + L2.length by omega)
    have EB := Ak (show b = en + R2.length by omega)
    have IH1 := HIH.out a i mid (by omega)
    have HI1 := Ak IH1
    have IH2 := HIH.out mid en b (by omega)
    have HI2 := Ak IH2
    clear IH1 IH2 HIH
    by_cases hA : i < m
    rotate_left
    · by_cases hB : m < en
      · exfalso; omega
      exfalso; omega
    by_cases hB : m < en
    · by_cases hC : a < i
      · by_cases hD : en < b
        · have qA := eq_true (show (i : Int) < (m : Int) by omega)
          have qAn := eq_true (show i < m by omega)
          have qA2 := eq_true (show (mid : Int) < (en : Int) by omega)
          have qA2n := eq_true (show mid < en by omega)
          have qB := eq_true (show (m : Int) < (en : Int) by omega)
          have qBn := eq_true (show m < en by omega)
          have qB2 := eq_true (show (i : Int) < (mid : Int) by omega)
          have qB2n := eq_true (show i < mid by omega)
          have qC := eq_true (show (a : Int) < (i : Int) by omega)
          have qCn := eq_true (show a < i by omega)
          have qD := eq_true (show (en : Int) < (b : Int) by omega)
          have qDn := eq_true (show en < b by omega)
          have X1 := Ak (show 1 ≤ L1.length by omega)
          have X2 := Ak (show 1 ≤ L2.length by omega)
          have X3 := Ak (show 1 ≤ R1.length by omega)
          have X4 := Ak (show 1 ≤ R2.length by omega)
          have wen : wrap64 ((n0 : Int) - (i : Int)) = (en : Int) := wsub hen bn0
          have wenq : IntKind.i64.wrap ((n0 : Int) - (i : Int)) = (en : Int) := (i64_w _).trans wen
          clear na nam nmb nmidb namid nbl nlen nn0 np bn0 nr0 hen b1 b2 b3 b4 b5 n1 n2 n3 n4 hjb HMM2 hA hB hC hD
          go_wp2_with (first | (go_at_call 76; with_reducible refine (rotate_calls go base len cap i m en ok (.func (.func 70) #[] #[.pointer (some ⟨g3, 0, none⟩)]) (P ++ L1) L2 R1 (R2 ++ S) _ HO.out ER0.out EL2.out ER1.out X2.out X3.out HLEN.out).mono ?_; rintro e_ w5 ⟨rfl, ho, hg⟩; have HO1 := Ak (show Kd.R (Kd.int .i64) 3 w5 base ok (.slice (some ⟨go, 0, none⟩) len cap) (P ++ L1 ++ R1 ++ (L2 ++ (R2 ++ S))) from by have h := ho; simp only [List.append_assoc] at h ⊢; exact h); have HG1 := Ak (grown_trans HG.out hg); have HCB := Ak (HC.out.later HG1.out); clear ho hg) | (go_at_call 75; with_reducible refine (HI1.out.call P L1 R1 (L2 ++ (R2 ++ S)) _ HO1.out EA.out EL1.out EM.out X1.out X3.out S1.out S3.out HLEN.out D1.out D3.out HCB.out).mono ?_; rintro e_ w6 ⟨rfl, ⟨Z1, y1, y2, ho⟩, hg⟩; have HO2 := Ak ho; have HG2 := Ak (grown_trans HG1.out hg); have Y1 := Ak y1; have Y2 := Ak y2; have HO2b := Ak (show Kd.R (Kd.int .i64) 3 w6 base ok (.slice (some ⟨go, 0, none⟩) len cap) (P ++ Z1 ++ L2 ++ R2 ++ S) from by have h := HO2.out; simp only [List.append_assoc] at h ⊢; exact h); have EZ := Ak (show mid = (P ++ Z1).length from by have h := Y2.out.len; have h2 := EM.out; have h3 := EL1.out; have h4 := EA.out; simp only [List.length_append] at h ⊢; omega); have HCC := Ak (HC.out.later HG2.out); clear ho hg y1 y2) | (go_at_call 75; with_reducible refine (HI2.out.call (P ++ Z1) L2 R2 S _ HO2b.out EZ.out EE.out EB.out X2.out X4.out S2.out S4.out HLEN.out D2.out D4.out HCC.out).mono ?_; rintro e_ w7 ⟨rfl, ⟨Z2, y3, y4, ho⟩, hg⟩; have HO3 := Ak ho; have HG3 := Ak (grown_trans HG2.out hg); have Y3 := Ak y3; have Y4 := Ak y4; clear ho hg y3 y4))
          go_end0
          have hzz := HZ.out Z1 Z2 Y1.out Y2.out Y3.out Y4.out
          exact ⟨rfl, ⟨Z1 ++ Z2, hzz.1, hzz.2, (by have h := HO3.out; simp only [List.append_assoc] at h ⊢; exact h)⟩, HG3.out⟩
        have qA := eq_true (show (i : Int) < (m : Int) by omega)
        have qAn := eq_true (show i < m by omega)
        have qA2 := eq_true (show (mid : Int) < (en : Int) by omega)
        have qA2n := eq_true (show mid < en by omega)
        have qB := eq_true (show (m : Int) < (en : Int) by omega)
        have qBn := eq_true (show m < en by omega)
        have qB2 := eq_true (show (i : Int) < (mid : Int) by omega)
        have qB2n := eq_true (show i < mid by omega)
        have qC := eq_true (show (a : Int) < (i : Int) by omega)
        have qCn := eq_true (show a < i by omega)
        have qD := eq_false (show ¬ (en : Int) < (b : Int) by omega)
        have qDn := eq_false (show ¬ en < b by omega)
        have X1 := Ak (show 1 ≤ L1.length by omega)
        have X2 := Ak (show 1 ≤ L2.length by omega)
        have X3 := Ak (show 1 ≤ R1.length by omega)
        have ZS2 := Ak (srt_or S2.out S4.out (by omega))
        have wen : wrap64 ((n0 : Int) - (i : Int)) = (en : Int) := wsub hen bn0
        have wenq : IntKind.i64.wrap ((n0 : Int) - (i : Int)) = (en : Int) := (i64_w _).trans wen
        clear na nam nmb nmidb namid nbl nlen nn0 np bn0 nr0 hen b1 b2 b3 b4 b5 n1 n2 n3 n4 hjb HMM2 hA hB hC hD
        go_wp2_with (first | (go_at_call 76; with_reducible refine (rotate_calls go base len cap i m en ok (.func (.func 70) #[] #[.pointer (some ⟨g3, 0, none⟩)]) (P ++ L1) L2 R1 (R2 ++ S) _ HO.out ER0.out EL2.out ER1.out X2.out X3.out HLEN.out).mono ?_; rintro e_ w5 ⟨rfl, ho, hg⟩; have HO1 := Ak (show Kd.R (Kd.int .i64) 3 w5 base ok (.slice (some ⟨go, 0, none⟩) len cap) (P ++ L1 ++ R1 ++ (L2 ++ (R2 ++ S))) from by have h := ho; simp only [List.append_assoc] at h ⊢; exact h); have HG1 := Ak (grown_trans HG.out hg); have HCB := Ak (HC.out.later HG1.out); clear ho hg) | (go_at_call 75; with_reducible refine (HI1.out.call P L1 R1 (L2 ++ (R2 ++ S)) _ HO1.out EA.out EL1.out EM.out X1.out X3.out S1.out S3.out HLEN.out D1.out D3.out HCB.out).mono ?_; rintro e_ w6 ⟨rfl, ⟨Z1, y1, y2, ho⟩, hg⟩; have HO2 := Ak ho; have HG2 := Ak (grown_trans HG1.out hg); have Y1 := Ak y1; have Y2 := Ak y2; skip; clear ho hg y1 y2))
        go_end0
        have hzz := HZ.out Z1 (L2 ++ R2) Y1.out Y2.out ZS2.out (Stb.refl _)
        exact ⟨rfl, ⟨Z1 ++ (L2 ++ R2), hzz.1, hzz.2, (by have h := HO2.out; simp only [List.append_assoc] at h ⊢; exact h)⟩, HG2.out⟩
      by_cases hD : en < b
      · have qA := eq_true (show (i : Int) < (m : Int) by omega)
        have qAn := eq_true (show i < m by omega)
        have qA2 := eq_true (show (mid : Int) < (en : Int) by omega)
        have qA2n := eq_true (show mid < en by omega)
        have qB := eq_true (show (m : Int) < (en : Int) by omega)
        have qBn := eq_true (show m < en by omega)
        have qB2 := eq_true (show (i : Int) < (mid : Int) by omega)
        have qB2n := eq_true (show i < mid by omega)
        have qC := eq_false (show ¬ (a : Int) < (i : Int) by omega)
        have qCn := eq_false (show ¬ a < i by omega)
        have qD := eq_true (show (en : Int) < (b : Int) by omega)
        have qDn := eq_true (show en < b by omega)
        have X2 := Ak (show 1 ≤ L2.length by omega)
        have X3 := Ak (show 1 ≤ R1.length by omega)
        have X4 := Ak (show 1 ≤ R2.length by omega)
        have ZS1 := Ak (srt_or S1.out S3.out (by omega))
        have wen : wrap64 ((n0 : Int) - (i : Int)) = (en : Int) := wsub hen bn0
        have wenq : IntKind.i64.wrap ((n0 : Int) - (i : Int)) = (en : Int) := (i64_w _).trans wen
        clear na nam nmb nmidb namid nbl nlen nn0 np bn0 nr0 hen b1 b2 b3 b4 b5 n1 n2 n3 n4 hjb HMM2 hA hB hC hD
        go_wp2_with (first | (go_at_call 76; with_reducible refine (rotate_calls go base len cap i m en ok (.func (.func 70) #[] #[.pointer (some ⟨g3, 0, none⟩)]) (P ++ L1) L2 R1 (R2 ++ S) _ HO.out ER0.out EL2.out ER1.out X2.out X3.out HLEN.out).mono ?_; rintro e_ w5 ⟨rfl, ho, hg⟩; have HO1 := Ak (show Kd.R (Kd.int .i64) 3 w5 base ok (.slice (some ⟨go, 0, none⟩) len cap) (P ++ L1 ++ R1 ++ (L2 ++ (R2 ++ S))) from by have h := ho; simp only [List.append_assoc] at h ⊢; exact h); have HG1 := Ak (grown_trans HG.out hg); have HO2b := Ak (show Kd.R (Kd.int .i64) 3 w5 base ok (.slice (some ⟨go, 0, none⟩) len cap) (P ++ (L1 ++ R1) ++ L2 ++ R2 ++ S) from by have h := HO1.out; simp only [List.append_assoc] at h ⊢; exact h); have EZ := Ak (show mid = (P ++ (L1 ++ R1)).length from by have h2 := EM.out; have h3 := EL1.out; have h4 := EA.out; simp only [List.length_append]; omega); have HCC := Ak (HC.out.later HG1.out); clear ho hg) | (go_at_call 75; with_reducible refine (HI2.out.call (P ++ (L1 ++ R1)) L2 R2 S _ HO2b.out EZ.out EE.out EB.out X2.out X4.out S2.out S4.out HLEN.out D2.out D4.out HCC.out).mono ?_; rintro e_ w7 ⟨rfl, ⟨Z2, y3, y4, ho⟩, hg⟩; have HO3 := Ak ho; have HG3 := Ak (grown_trans HG1.out hg); have Y3 := Ak y3; have Y4 := Ak y4; clear ho hg y3 y4))
        go_end0
        have hzz := HZ.out (L1 ++ R1) Z2 ZS1.out (Stb.refl _) Y3.out Y4.out
        exact ⟨rfl, ⟨(L1 ++ R1) ++ Z2, hzz.1, hzz.2, (by have h := HO3.out; simp only [List.append_assoc] at h ⊢; exact h)⟩, HG3.out⟩
      have qA := eq_true (show (i : Int) < (m : Int) by omega)
      have qAn := eq_true (show i < m by omega)
      have qA2 := eq_true (show (mid : Int) < (en : Int) by omega)
      have qA2n := eq_true (show mid < en by omega)
      have qB := eq_true (show (m : Int) < (en : Int) by omega)
      have qBn := eq_true (show m < en by omega)
      have qB2 := eq_true (show (i : Int) < (mid : Int) by omega)
      have qB2n := eq_true (show i < mid by omega)
      have qC := eq_false (show ¬ (a : Int) < (i : Int) by omega)
      have qCn := eq_false (show ¬ a < i by omega)
      have qD := eq_false (show ¬ (en : Int) < (b : Int) by omega)
      have qDn := eq_false (show ¬ en < b by omega)
      have X2 := Ak (show 1 ≤ L2.length by omega)
      have X3 := Ak (show 1 ≤ R1.length by omega)
      have ZS1 := Ak (srt_or S1.out S3.out (by omega))
      have ZS2 := Ak (srt_or S2.out S4.out (by omega))
      have wen : wrap64 ((n0 : Int) - (i : Int)) = (en : Int) := wsub hen bn0
      have wenq : IntKind.i64.wrap ((n0 : Int) - (i : Int)) = (en : Int) := (i64_w _).trans wen
      clear na nam nmb nmidb namid nbl nlen nn0 np bn0 nr0 hen b1 b2 b3 b4 b5 n1 n2 n3 n4 hjb HMM2 hA hB hC hD
      go_wp2_with (first | (go_at_call 76; with_reducible refine (rotate_calls go base len cap i m en ok (.func (.func 70) #[] #[.pointer (some ⟨g3, 0, none⟩)]) (P ++ L1) L2 R1 (R2 ++ S) _ HO.out ER0.out EL2.out ER1.out X2.out X3.out HLEN.out).mono ?_; rintro e_ w5 ⟨rfl, ho, hg⟩; have HO1 := Ak (show Kd.R (Kd.int .i64) 3 w5 base ok (.slice (some ⟨go, 0, none⟩) len cap) (P ++ L1 ++ R1 ++ (L2 ++ (R2 ++ S))) from by have h := ho; simp only [List.append_assoc] at h ⊢; exact h); have HG1 := Ak (grown_trans HG.out hg); skip; clear ho hg))
      go_end0
      have hzz := HZ.out (L1 ++ R1) (L2 ++ R2) ZS1.out (Stb.refl _) ZS2.out (Stb.refl _)
      exact ⟨rfl, ⟨(L1 ++ R1) ++ (L2 ++ R2), hzz.1, hzz.2, (by have h := HO1.out; simp only [List.append_assoc] at h ⊢; exact h)⟩, HG1.out⟩
    by_cases hC : a < i
    · by_cases hD : en < b
      · have qA := eq_true (show (i : Int) < (m : Int) by omega)
        have qAn := eq_true (show i < m by omega)
        have qA2 := eq_true (show (mid : Int) < (en : Int) by omega)
        have qA2n := eq_true (show mid < en by omega)
        have qB := eq_false (show ¬ (m : Int) < (en : Int) by omega)
        have qBn := eq_false (show ¬ m < en by omega)
        have qB2 := eq_false (show ¬ (i : Int) < (mid : Int) by omega)
        have qB2n := eq_false (show ¬ i < mid by omega)
        have qC := eq_true (show (a : Int) < (i : Int) by omega)
        have qCn := eq_true (show a < i by omega)
        have qD := eq_true (show (en : Int) < (b : Int) by omega)
        have qDn := eq_true (show en < b by omega)
        have X1 := Ak (show 1 ≤ L1.length by omega)
        have X2 := Ak (show 1 ≤ L2.length by omega)
        have X4 := Ak (show 1 ≤ R2.length by omega)
        have ZS1 := Ak (srt_or S1.out S3.out (by omega))
        have HO1 := Ak (show Kd.R (Kd.int .i64) 3 wr base ok (.slice (some ⟨go, 0, none⟩) len cap) (P ++ L1 ++ R1 ++ (L2 ++ (R2 ++ S))) from by have h := HO.out; rw [turn_or (show L2.length = 0 ∨ R1.length = 0 by omega)] at h; simp only [List.append_assoc] at h ⊢; exact h)
        have HO2b := Ak (show Kd.R (Kd.int .i64) 3 wr base ok (.slice (some ⟨go, 0, none⟩) len cap) (P ++ (L1 ++ R1) ++ L2 ++ R2 ++ S) from by have h := HO1.out; simp only [List.append_assoc] at h ⊢; exact h)
        have EZ := Ak (show mid = (P ++ (L1 ++ R1)).length from by have h2 := EM.out; have h3 := EL1.out; have h4 := EA.out; simp only [List.length_append]; omega)
        have HCC := Ak (HC.out.later HG.out)
        have wen : wrap64 ((n0 : Int) - (i : Int)) = (en : Int) := wsub hen bn0
        have wenq : IntKind.i64.wrap ((n0 : Int) - (i : Int)) = (en : Int) := (i64_w _).trans wen
        clear na nam nmb nmidb namid nbl nlen nn0 np bn0 nr0 hen b1 b2 b3 b4 b5 n1 n2 n3 n4 hjb HMM2 hA hB hC hD
        go_wp2_with (first | (go_at_call 75; with_reducible refine (HI2.out.call (P ++ (L1 ++ R1)) L2 R2 S _ HO2b.out EZ.out EE.out EB.out X2.out X4.out S2.out S4.out HLEN.out D2.out D4.out HCC.out).mono ?_; rintro e_ w7 ⟨rfl, ⟨Z2, y3, y4, ho⟩, hg⟩; have HO3 := Ak ho; have HG3 := Ak (grown_trans HG.out hg); have Y3 := Ak y3; have Y4 := Ak y4; clear ho hg y3 y4))
        go_end0
        have hzz := HZ.out (L1 ++ R1) Z2 ZS1.out (Stb.refl _) Y3.out Y4.out
        exact ⟨rfl, ⟨(L1 ++ R1) ++ Z2, hzz.1, hzz.2, (by have h := HO3.out; simp only [List.append_assoc] at h ⊢; exact h)⟩, HG3.out⟩
      have qA := eq_true (show (i : Int) < (m : Int) by omega)
      have qAn := eq_true (show i < m by omega)
      have qA2 := eq_true (show (mid : Int) < (en : Int) by omega)
      have qA2n := eq_true (show mid < en by omega)
      have qB := eq_false (show ¬ (m : Int) < (en : Int) by omega)
      have qBn := eq_false (show ¬ m < en by omega)
      have qB2 := eq_false (show ¬ (i : Int) < (mid : Int) by omega)
      have qB2n := eq_false (show ¬ i < mid by omega)
      have qC := eq_true (show (a : Int) < (i : Int) by omega)
      have qCn := eq_true (show a < i by omega)
      have qD := eq_false (show ¬ (en : Int) < (b : Int) by omega)
      have qDn := eq_false (show ¬ en < b by omega)
      have X1 := Ak (show 1 ≤ L1.length by omega)
      have X2 := Ak (show 1 ≤ L2.length by omega)
      have ZS1 := Ak (srt_or S1.out S3.out (by omega))
      have ZS2 := Ak (srt_or S2.out S4.out (by omega))
      have HO1 := Ak (show Kd.R (Kd.int .i64) 3 wr base ok (.slice (some ⟨go, 0, none⟩) len cap) (P ++ L1 ++ R1 ++ (L2 ++ (R2 ++ S))) from by have h := HO.out; rw [turn_or (show L2.length = 0 ∨ R1.length = 0 by omega)] at h; simp only [List.append_assoc] at h ⊢; exact h)
      have wen : wrap64 ((n0 : Int) - (i : Int)) = (en : Int) := wsub hen bn0
      have wenq : IntKind.i64.wrap ((n0 : Int) - (i : Int)) = (en : Int) := (i64_w _).trans wen
      clear na nam nmb nmidb namid nbl nlen nn0 np bn0 nr0 hen b1 b2 b3 b4 b5 n1 n2 n3 n4 hjb HMM2 hA hB hC hD
      go_wp2
      go_end0
      have hzz := HZ.out (L1 ++ R1) (L2 ++ R2) ZS1.out (Stb.refl _) ZS2.out (Stb.refl _)
      exact ⟨rfl, ⟨(L1 ++ R1) ++ (L2 ++ R2), hzz.1, hzz.2, (by have h := HO1.out; simp only [List.append_assoc] at h ⊢; exact h)⟩, HG.out⟩
    by_cases hD : en < b
    · have qA := eq_true (show (i : Int) < (m : Int) by omega)
      have qAn := eq_true (show i < m by omega)
      have qA2 := eq_true (show (mid : Int) < (en : Int) by omega)
      have qA2n := eq_true (show mid < en by omega)
      have qB := eq_false (show ¬ (m : Int) < (en : Int) by omega)
      have qBn := eq_false (show ¬ m < en by omega)
      have qB2 := eq_false (show ¬ (i : Int) < (mid : Int) by omega)
      have qB2n := eq_false (show ¬ i < mid by omega)
      have qC := eq_false (show ¬ (a : Int) < (i : Int) by omega)
      have qCn := eq_false (show ¬ a < i by omega)
      have qD := eq_true (show (en : Int) < (b : Int) by omega)
      have qDn := eq_true (show en < b by omega)
      have X2 := Ak (show 1 ≤ L2.length by omega)
      have X4 := Ak (show 1 ≤ R2.length by omega)
      have ZS1 := Ak (srt_or S1.out S3.out (by omega))
      have HO1 := Ak (show Kd.R (Kd.int .i64) 3 wr base ok (.slice (some ⟨go, 0, none⟩) len cap) (P ++ L1 ++ R1 ++ (L2 ++ (R2 ++ S))) from by have h := HO.out; rw [turn_or (show L2.length = 0 ∨ R1.length = 0 by omega)] at h; simp only [List.append_assoc] at h ⊢; exact h)
      have HO2b := Ak (show Kd.R (Kd.int .i64) 3 wr base ok (.slice (some ⟨go, 0, none⟩) len cap) (P ++ (L1 ++ R1) ++ L2 ++ R2 ++ S) from by have h := HO1.out; simp only [List.append_assoc] at h ⊢; exact h)
      have EZ := Ak (show mid = (P ++ (L1 ++ R1)).length from by have h2 := EM.out; have h3 := EL1.out; have h4 := EA.out; simp only [List.length_append]; omega)
      have HCC := Ak (HC.out.later HG.out)
      have wen : wrap64 ((n0 : Int) - (i : Int)) = (en : Int) := wsub hen bn0
      have wenq : IntKind.i64.wrap ((n0 : Int) - (i : Int)) = (en : Int) := (i64_w _).trans wen
      clear na nam nmb nmidb namid nbl nlen nn0 np bn0 nr0 hen b1 b2 b3 b4 b5 n1 n2 n3 n4 hjb HMM2 hA hB hC hD
      go_wp2_with (first | (go_at_call 75; with_reducible refine (HI2.out.call (P ++ (L1 ++ R1)) L2 R2 S _ HO2b.out EZ.out EE.out EB.out X2.out X4.out S2.out S4.out HLEN.out D2.out D4.out HCC.out).mono ?_; rintro e_ w7 ⟨rfl, ⟨Z2, y3, y4, ho⟩, hg⟩; have HO3 := Ak ho; have HG3 := Ak (grown_trans HG.out hg); have Y3 := Ak y3; have Y4 := Ak y4; clear ho hg y3 y4))
      go_end0
      have hzz := HZ.out (L1 ++ R1) Z2 ZS1.out (Stb.refl _) Y3.out Y4.out
      exact ⟨rfl, ⟨(L1 ++ R1) ++ Z2, hzz.1, hzz.2, (by have h := HO3.out; simp only [List.append_assoc] at h ⊢; exact h)⟩, HG3.out⟩
    have qA := eq_true (show (i : Int) < (m : Int) by omega)
    have qAn := eq_true (show i < m by omega)
    have qA2 := eq_true (show (mid : Int) < (en : Int) by omega)
    have qA2n := eq_true (show mid < en by omega)
    have qB := eq_false (show ¬ (m : Int) < (en : Int) by omega)
    have qBn := eq_false (show ¬ m < en by omega)
    have qB2 := eq_false (show ¬ (i : Int) < (mid : Int) by omega)
    have qB2n := eq_false (show ¬ i < mid by omega)
    have qC := eq_false (show ¬ (a : Int) < (i : Int) by omega)
    have qCn := eq_false (show ¬ a < i by omega)
    have qD := eq_false (show ¬ (en : Int) < (b : Int) by omega)
    have qDn := eq_false (show ¬ en < b by omega)
    have X2 := Ak (show 1 ≤ L2.length by omega)
    have ZS1 := Ak (srt_or S1.out S3.out (by omega))
    have ZS2 := Ak (srt_or S2.out S4.out (by omega))
    have HO1 := Ak (show Kd.R (Kd.int .i64) 3 wr base ok (.slice (some ⟨go, 0, none⟩) len cap) (P ++ L1 ++ R1 ++ (L2 ++ (R2 ++ S))) from by have h := HO.out; rw [turn_or (show L2.length = 0 ∨ R1.length = 0 by omega)] at h; simp only [List.append_assoc] at h ⊢; exact h)
    have wen : wrap64 ((n0 : Int) - (i : Int)) = (en : Int) := wsub hen bn0
    have wenq : IntKind.i64.wrap ((n0 : Int) - (i : Int)) = (en : Int) := (i64_w _).trans wen
    clear na nam nmb nmidb namid nbl nlen nn0 np bn0 nr0 hen b1 b2 b3 b4 b5 n1 n2 n3 n4 hjb HMM2 hA hB hC hD
    go_wp2
    go_end0
    have hzz := HZ.out (L1 ++ R1) (L2 ++ R2) ZS1.out (Stb.refl _) ZS2.out (Stb.refl _)
    exact ⟨rfl, ⟨(L1 ++ R1) ++ (L2 ++ R2), hzz.1, hzz.2, (by have h := HO1.out; simp only [List.append_assoc] at h ⊢; exact h)⟩, HG.out⟩
end
end Go.Proofs.YtgflkkjhckcipaaDoor.Hu

