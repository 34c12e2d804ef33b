-- Texts by hand and by programs of this session, joined (wip/tool/merge.py).
import Derived.Shelf.Abstract
import Derived.Shelf.RegionOpen
import Derived.OwnWalkIn
import Derived.TacticsInMore
import Derived.LoopNIn
import Derived.LoopIn
import Derived.Test.YtgflkkjhckcipaaGreatDoorMID13
-- YtgflkkjhckcipaaGreatDoorIf21
set_option maxHeartbeats 16000000
set_option maxRecDepth 1000000
namespace Go.Proofs.YtgflkkjhckcipaaGreatDoor.Pr
open Go.RowKit Go.Shelf Go.Proofs.YtgflkkjhckcipaaGreatDoorW.PrintWords Go.Proofs.YtgflkkjhckcipaaGreatDoorW.PrintLast Go.Proofs.YtgflkkjhckcipaaGreatDoorW.PrintMore
set_option linter.unusedVariables false
set_option linter.unusedSimpArgs false
theorem codesM_ok {l : List Int} : ∀ {d i p : Nat} {z z' : List Int} {p' : Nat}, p ≤ 8 * l.length → codesM l d i p z = .ok (z', p') → Hu.newS z' = 0 ∧ p ≤ p' ∧ p' ≤ 8 * l.length
  | 0, i, p, z, z', p', hp, h => by
    unfold codesM at h; split at h
    · next hz =>
      injection h with h
      injection h with h1 h2
      subst h1 h2; exact ⟨hz, Nat.le_refl _, hp⟩
    · cases h
  | d + 1, i, p, z, z', p', hp, h => by
    unfold codesM at h
    cases hb : bitsM l p 3 with
    | error e => rw [hb] at h; cases h
    | ok r =>
      obtain ⟨x, p1⟩ := r; have ho := bitsM_ok hb; rw [hb] at h; have := codesM_ok (by omega) h; exact ⟨this.1, by omega, this.2.2⟩
theorem lengthsM_ok {l z : List Int} (hz : OKL z) {n : Nat} : ∀ {k p : Nat} {out all : List Int} {p' : Nat}, p ≤ 8 * l.length → out.length ≤ n → lengthsM l z n k p out = .ok (all, p') → all.length = n ∧ p ≤ p' ∧ p' ≤ 8 * l.length
  | 0, p, out, all, p', hp, hl, h => by cases h
  | k + 1, p, out, all, p', hp, hl, h => by
    unfold lengthsM at h; split at h
    · cases hs : symM l (some z) p with
      | error e => rw [hs] at h; cases h
      | ok r =>
        obtain ⟨s, p1⟩ := r; have hso := symM_ok hz hp hs; rw [hs] at h; dsimp only at h
        cases hx : bitsM l p1 (extraN s) with
        | error e => rw [hx] at h; cases h
        | ok r2 =>
          obtain ⟨x, p2⟩ := r2; have hbo := bitsM_ok hx; rw [hx] at h; dsimp only at h
          cases ht : takeM out s x n with
          | error e => rw [ht] at h; cases h
          | ok o2 =>
            rw [ht] at h; have hto := takeM_ok ht hl; have := lengthsM_ok hz (p := p2) (by omega) hto.1 h; exact ⟨this.1, by omega, this.2.2⟩
    · next hge =>
      injection h with h
      injection h with h1 h2
      subst h1 h2; exact ⟨by omega, Nat.le_refl _, hp⟩
theorem headerM_ok {l : List Int} {k p : Nat} {lit dist : List Int} {p' : Nat} (hp : p ≤ 8 * l.length) (h : headerM l k p = .ok (lit, dist, p')) : 257 ≤ lit.length ∧ lit.length ≤ 286 ∧ 1 ≤ dist.length ∧ dist.length ≤ 30 ∧ p < p' ∧ p' ≤ 8 * l.length := by
  unfold headerM at h
  cases h1 : bitsM l p 5 with
  | error e => rw [h1] at h; cases h
  | ok r1 => ?_
  obtain ⟨x, p1⟩ := r1; have o1 := bitsM_ok h1; have x1 := getV_range l p 5; rw [h1] at h; dsimp only at h
  cases h2 : bitsM l p1 5 with
  | error e => rw [h2] at h; cases h
  | ok r2 => ?_
  obtain ⟨y, p2⟩ := r2; have o2 := bitsM_ok h2; have y1 := getV_range l p1 5; rw [h2] at h; dsimp only at h; split at h
  · cases h
  next hc =>
  cases h3 : bitsM l p2 4 with
  | error e => rw [h3] at h; cases h
  | ok r3 => ?_
  obtain ⟨q, p3⟩ := r3; have o3 := bitsM_ok h3; rw [h3] at h; dsimp only at h
  cases h4 : codesM l (4 + q.toNat) 0 p3 (List.replicate 19 0) with
  | error e => rw [h4] at h; cases h
  | ok r4 => ?_
  obtain ⟨z, p4⟩ := r4; have o4 := codesM_ok (by omega) h4; rw [h4] at h; dsimp only at h
  cases h5 : lengthsM l z (257 + x.toNat + (1 + y.toNat)) k p4 [] with
  | error e => rw [h5] at h; cases h
  | ok r5 => ?_
  obtain ⟨all, p5⟩ := r5; have o5 := lengthsM_ok (okl_new o4.1) o4.2.2 (Nat.zero_le _) h5; rw [h5] at h; dsimp only at h
  injection h with h
  injection h with e1 e2
  injection e2 with e2 e3
  subst e1 e2 e3; rw [List.length_take, List.length_drop]
  omega
def dynamicM (l : List Int) (most : Int) (k p : Nat) (out : List Int) : Except Int (Nat × List Int) :=
  match headerM l k p with
  | .error e => .error e
  | .ok (lit, dist, p1) => if lit.getD 256 0 = 0 then .error 13 else if Hu.newS lit ≠ 0 then .error (Hu.newS lit) else if dist.all (· == 0) then symbolsM l most lit none k p1 out else if Hu.newS dist ≠ 0 then .error (Hu.newS dist) else symbolsM l most lit (some dist) k p1 out
theorem header_ok {w : World} {A : Option Addr} {c : Nat} {l : List Int} (hr : RowOk w A c l) (p : Nat) (hp : p ≤ 8 * l.length) (k : Nat) (hk : 8 * l.length < k) {lit dist : List Int} {p' : Nat} (h : headerM l k p = .ok (lit, dist, p')) :
    Calls Tryz.prog 35 #[.agg #[.slice A l.length c, .int .i64 (NN l)], .int .i64 (p : Int)] w fun e w' => ∃ A1 c1 A2 c2, e = .returned (.tuple #[.slice A1 lit.length c1, .slice A2 dist.length c2, .int .i64 (p' : Int), .int .i64 0]) ∧ RowAt w' A1 lit ∧ RowAt w' A2 dist ∧ Below w.heap.size w w' := by
  have hc := header_told hr p hp k hk; rw [h] at hc; exact hc
theorem header_bad {w : World} {A : Option Addr} {c : Nat} {l : List Int} (hr : RowOk w A c l) (p : Nat) (hp : p ≤ 8 * l.length) (k : Nat) (hk : 8 * l.length < k) {er : Int} (h : headerM l k p = .error er) :
    Calls Tryz.prog 35 #[.agg #[.slice A l.length c, .int .i64 (NN l)], .int .i64 (p : Int)] w fun e w' => e = .returned (.tuple #[.slice none 0 0, .slice none 0 0, .int .i64 0, .int .i64 er]) ∧ Below w.heap.size w w' ∧ er ≠ 0 := by
  have hc := header_told hr p hp k hk; rw [h] at hc; exact hc
theorem table_bad (A : Option Addr) (c n : Nat) (z : List Int) (w : World) (hn : z.length = n) (hr : (Kd.int .i64).C w A z.length z) (hz : Hu.newS z ≠ 0) :
    Calls Tryz.prog 34 #[.slice A n c] w fun e w' => Gives w.heap.size w w' (Hu.newS z) e := by
  subst hn; refine (table_calls A c z w hr).mono ?_; rintro e w' (⟨h0, _⟩ | ⟨_, hg⟩)
  · exact absurd h0 hz
  exact hg
theorem RowOk.on {w w' : World} {A : Option Addr} {c : Nat} {l : List Int} (h : RowOk w A c l) (hb : Below w.heap.size w w') : RowOk w' A c l := ⟨Kd.C_below h.C hb, h.cap, h.byt, h.len⟩
-- YtgflkkjhckcipaaGreatDoorIf22
section
attribute [local go_sem] Oper.semAt_some
theorem dynamic_told {w0 : World} {A : Option Addr} {c : Nat} {l : List Int} (hr : RowOk w0 A c l) (w : World) (g p : Nat) (v : Value) (out : List Int) (most : Int) (H : RdrAt w0 w g A c l (NN l) (p : Int) v out most) (hp : p ≤ 8 * l.length) (hm0 : (out.length : Int) ≤ most) (hm1 : most ≤ 65536) (k : Nat) (hk : 8 * l.length < k) :
    Calls Tryz.prog 20 #[.pointer (some ⟨g, 0, none⟩)] w fun e w' => ToldO w0 w g A c l v most e w' (dynamicM l most k p out) := by
  have HR := Ak hr; have HX := Ak H; have AT := Ak H; have MV := Ak (Moved.of_below g v (Below.refl w.heap.size w)); have HP := Ak hp; have huR := Tryz.underlying45; have huB := Tryz.underlying43; have HM0 := Ak hm0; have HM1 := Ak hm1; have HK := Ak hk; clear hr H hp hm0 hm1 hk; obtain ⟨R, hR⟩ : ∃ R, dynamicM l most k p out = R := ⟨_, rfl⟩; rw [hR]; have hRR := hR; clear hR; unfold dynamicM at hRR
  cases h1 : headerM l k p with
  | error er =>
    rw [h1] at hRR; have HRR := Ak hRR.symm; have H1 := Ak h1; clear hRR h1; go_enter Tryz.func20, Tryz.ntmps20
    go_upto_region 0 with (fail)
    replace AT := Ak (AT.out.on (below_drew (Below.refl _ _))); replace MV := Ak (MV.out.trans (Moved.of_below g _ (below_drew (Below.refl _ _)))); refine sq 18 (S := fun w' => w'.cell? ⟨g, 0, none⟩ = some (.slice A l.length c) ∧ w'.cell? ⟨g, 1, none⟩ = some (.int .i64 (NN l)) ∧ w'.cell? ⟨g, 2, none⟩ = some (.int .i64 (p : Int))) (ds := []) ⟨(blk_cell AT.out.blk 0).trans rfl, (blk_cell AT.out.blk 1).trans rfl, (blk_cell AT.out.blk 2).trans rfl⟩ fun hHeld => ?_; generalize w.drew = wd at AT MV hHeld ⊢; refine pq 0 11 ?_; refine pq 1 12 ?_; refine pq 2 13 ?_; refine pq 4 15 ?_; refine pq 5 16 ?_; refine pq 6 17 ?_; refine tq 3 14 ?_ hHeld; refine tq 7 18 ?_ hHeld; refine oq 8 19 fun K hK => ?_; refine gq Tryz.func35 #[.agg #[.slice A l.length c, .int .i64 (NN l)], .int .i64 (p : Int)] ?_
    with_reducible refine (header_bad (HR.out.on AT.out.below) p HP.out k HK.out H1.out).mono ?_
    rintro e w5 ⟨rfl, hb, he0⟩; refine ⟨_, rfl, ?_⟩; replace AT := Ak (AT.out.on hb); replace MV := Ak (MV.out.trans (Moved.of_below g _ hb)); have HE0 := Ak he0; clear he0; clear hb; refine hK.out _ _ ⟨(blk_cell AT.out.blk 0).trans rfl, (blk_cell AT.out.blk 1).trans rfl, (blk_cell AT.out.blk 2).trans rfl⟩ (fun hHeld => ?_); clear hK K; refine nq 19 ?_; refine pq 9 10 ?_; refine pq 10 20 ?_; refine pq 11 21 ?_; refine pq 12 22 ?_; refine pq 13 23 ?_; refine pq 14 2 ?_; refine pq 15 3 ?_; refine pq 16 4 ?_; refine pq 17 5 ?_; refine dq ?_
    go_wp2_with (go_at_call 31; refine (must_else er HE0.out _).mono ?_; rintro e w' ⟨pp, rfl, hfa, hb⟩)
    exact ⟨rfl, by rw [HRR.out]; exact ⟨pp, rfl, hfa, (HX.out.between AT.out MV.out.size).trans (hb.mono AT.out.below.size)⟩⟩
  | ok r => ?_
  obtain ⟨lit, dist, p1⟩ := r; have hho := headerM_ok HP.out h1; have HH := Ak hho; rw [h1] at hRR; dsimp only at hRR; have H1 := Ak h1; have HRR := Ak hRR; clear h1 hho hRR; go_enter Tryz.func20, Tryz.ntmps20
  go_upto_region 0 with (fail)
  replace AT := Ak (AT.out.on (below_drew (Below.refl _ _))); replace MV := Ak (MV.out.trans (Moved.of_below g _ (below_drew (Below.refl _ _)))); refine sq 18 (S := fun w' => w'.cell? ⟨g, 0, none⟩ = some (.slice A l.length c) ∧ w'.cell? ⟨g, 1, none⟩ = some (.int .i64 (NN l)) ∧ w'.cell? ⟨g, 2, none⟩ = some (.int .i64 (p : Int))) (ds := []) ⟨(blk_cell AT.out.blk 0).trans rfl, (blk_cell AT.out.blk 1).trans rfl, (blk_cell AT.out.blk 2).trans rfl⟩ fun hHeld => ?_; generalize w.drew = wd at AT MV hHeld ⊢; refine pq 0 11 ?_; refine pq 1 12 ?_; refine pq 2 13 ?_; refine pq 4 15 ?_; refine pq 5 16 ?_; refine pq 6 17 ?_; refine tq 3 14 ?_ hHeld; refine tq 7 18 ?_ hHeld; refine oq 8 19 fun K hK => ?_; refine gq Tryz.func35 #[.agg #[.slice A l.length c, .int .i64 (NN l)], .int .i64 (p : Int)] ?_
  with_reducible refine (header_ok (HR.out.on AT.out.below) p HP.out k HK.out H1.out).mono ?_
  rintro e w5 ⟨A1, c1, A2, c2, rfl, hl1, hl2, hb⟩; refine ⟨_, rfl, ?_⟩; replace AT := Ak (AT.out.on hb); replace MV := Ak (MV.out.trans (Moved.of_below g _ hb)); have HL1 := Ak hl1; have HL2 := Ak hl2; clear hl1 hl2; clear hb; refine hK.out _ _ ⟨(blk_cell AT.out.blk 0).trans rfl, (blk_cell AT.out.blk 1).trans rfl, (blk_cell AT.out.blk 2).trans rfl⟩ (fun hHeld => ?_); clear hK K; refine nq 19 ?_; refine pq 9 10 ?_; refine pq 10 20 ?_; refine pq 11 21 ?_; refine pq 12 22 ?_; refine pq 13 23 ?_; refine pq 14 2 ?_; refine pq 15 3 ?_; refine pq 16 4 ?_; refine pq 17 5 ?_; refine dq ?_; have hc2 : w5.cell? ⟨g, 2, none⟩ = some (.int .i64 (p : Int)) := (blk_cell AT.out.blk 2).trans rfl; have hf2 := blk_frozen AT.out.blk 2
  go_upto_region 3 with ((go_at_call 31; refine (must_zero _).mono ?_; rintro e w' ⟨rfl, hw_⟩; subst hw_))
  clear hc2 hf2; replace MV := Ak (MV.out.set_ 2 (.int .i64 (p1 : Int))); replace HL1 := Ak (HL1.out.set_ AT.out.blk (by decide) (.int .i64 (p1 : Int)) (j := 2)); replace HL2 := Ak (HL2.out.set_ AT.out.blk (by decide) (.int .i64 (p1 : Int)) (j := 2)); replace AT := Ak (AT.out.setAt (p1 : Int)); generalize w'.setCell ⟨g, 2, none⟩ (.int .i64 (p1 : Int)) = w6 at AT MV HL1 HL2 ⊢; have hh := HH.out; obtain ⟨ad1, e1, hcell⟩ := Kd.at_int HL1.out.C 256 (by omega) (by omega); subst e1; obtain ⟨x, hx⟩ : ∃ x, x = lit.getD 256 0 := ⟨_, rfl⟩; replace hcell : w6.cell? ⟨ad1.block, ad1.off + 256, none⟩ = some (.int .i64 x) := (by rw [hx]; exact hcell); have q0 := eq_true (show (256 : Int) < (lit.length : Int) by omega); have q0n := eq_true (show 256 < lit.length by omega); have hRR := HRR.out; rw [← hx] at hRR; clear HRR hx hh
  by_cases hx0 : x = 0
  · rw [if_pos hx0] at hRR; have HRR := Ak hRR.symm; subst hx0; clear hRR
    go_wp2_with (go_at_call 21; refine (stop_calls 13 _).mono ?_; rintro e w' ⟨pp, rfl, hfa, hb⟩)
    exact ⟨rfl, by rw [HRR.out]; exact ⟨pp, rfl, hfa, (HX.out.between AT.out MV.out.size).trans (hb.mono AT.out.below.size)⟩⟩
  rw [if_neg hx0] at hRR; have q1 := eq_false hx0; have q1b : (x == 0) = false := beq_eq_false_iff_ne.mpr hx0; clear hx0
  by_cases hz : Hu.newS lit = 0
  rotate_left
  · rw [if_pos hz] at hRR; have HRR := Ak hRR.symm; have HZ := Ak hz; clear hRR hz
    go_wp2_with (go_at_call 34; refine (table_bad (some ad1) c1 lit.length lit _ rfl HL1.out.C HZ.out).mono ?_; rintro e w' ⟨pp, rfl, hfa, hb⟩)
    exact ⟨rfl, by rw [HRR.out]; exact ⟨pp, rfl, hfa, (HX.out.between AT.out MV.out.size).trans (hb.mono AT.out.below.size)⟩⟩
  rw [if_neg (fun h => h hz)] at hRR; have HZ := Ak hz; have HRR := Ak hRR; clear hz hRR
  go_upto_region 8 with ((go_at_call 34; refine (table_ok (some ad1) c1 lit.length lit _ rfl HL1.out.C HZ.out).mono ?_; rintro e w7 ⟨gt, rfl, hT, hb⟩; replace C1 := Ak (hT); replace AT := Ak (AT.out.on hb); replace MV := Ak (MV.out.trans (Moved.of_below g _ hb)); replace HL2 := Ak (HL2.out.on hb); clear hT hb))
  clear hcell q0 q0n q1 q1b
  go_loop [7, 39] (fun v7 v39 => ∃ (i : Nat) (b : Bool), v39 = .int .i64 (i : Int) ∧ v7 = .bool b ∧ Aside0 (i ≤ dist.length) ∧ Aside0 (b = !((dist.take i).all (· == 0)))) (fun _ v39 => dist.length - (intOf v39).toNat)
  case atStart => exact ⟨0, false, rfl, rfl, ⟨Nat.zero_le _⟩, ⟨by simp⟩⟩
  case round =>
    obtain ⟨i, b, rfl, rfl, HI, HBB⟩ := hrel
    by_cases hlt : i < dist.length
    · obtain ⟨ad2, e2, hcell⟩ := Kd.at_int HL2.out.C ((i : Nat) : Int) (by omega) (by omega); subst e2; rw [Int.toNat_natCast, rd_nat] at hcell; obtain ⟨x2, hx2⟩ : ∃ x2, x2 = dist.getD i 0 := ⟨_, rfl⟩; rw [← hx2] at hcell; have HLT := Ak hlt
      have hstep : dist.take (i + 1) = dist.take i ++ [x2] := by rw [List.take_add_one, hx2, List.getD_eq_getElem?_getD, List.getElem?_eq_getElem hlt]; rfl
      have HST := Ak hstep; have HDL := Ak (show dist.length ≤ 30 from HH.out.2.2.2.1); have q0 := eq_true (show (i : Int) < (dist.length : Int) by omega); have q1 := eq_true hlt; have q2 := eq_true (show 0 ≤ (i : Int) by omega); clear hlt hx2 hstep
      cases b with
      | true =>
        go_wp2
        go_round
        case rel => exact ⟨i + 1, true, val_next _ (by have := HLT.out; have := HDL.out; omega), rfl, ⟨HLT.out⟩, ⟨by have hb := HBB.out; rw [HST.out, List.all_append, Bool.not_and, ← hb, Bool.true_or]⟩⟩
        case measure => rw [nat_next _ (by have := HLT.out; have := HDL.out; omega)]; simp only [intOf, Int.toNat_natCast]; have := HLT.out; omega
      | false => ?_
      by_cases hx : x2 = 0
      · subst hx; go_wp2
        go_round
        case rel => exact ⟨i + 1, false, val_next _ (by have := HLT.out; have := HDL.out; omega), rfl, ⟨HLT.out⟩, ⟨by have hb := HBB.out; rw [HST.out, List.all_append, Bool.not_and, ← hb]; rfl⟩⟩
        case measure => rw [nat_next _ (by have := HLT.out; have := HDL.out; omega)]; simp only [intOf, Int.toNat_natCast]; have := HLT.out; omega
      have q3 := eq_false hx; have q3b : (x2 == 0) = false := beq_eq_false_iff_ne.mpr hx; have q3c : (x2 != 0) = true := bne_iff_ne.2 hx; have HXN := Ak q3b; clear hx; go_wp2
      go_round
      case rel => exact ⟨i + 1, true, val_next _ (by have := HLT.out; have := HDL.out; omega), rfl, ⟨HLT.out⟩, ⟨by have hb := HBB.out; rw [HST.out, List.all_append, Bool.not_and, ← hb]; simp [HXN.out]⟩⟩
      case measure => rw [nat_next _ (by have := HLT.out; have := HDL.out; omega)]; simp only [intOf, Int.toNat_natCast]; have := HLT.out; omega
    obtain rfl : i = dist.length := by have := HI.out; omega
    have hb := HBB.out; rw [List.take_length] at hb; have hRR := HRR.out; have q0 := eq_false (show ¬ (dist.length : Int) < (dist.length : Int) by omega); clear HRR HBB
    cases hd : dist.all (· == 0) with
    | true =>
      rw [hd] at hb hRR; replace hb : b = false := hb; subst hb; rw [if_pos rfl] at hRR; have HRR := Ak hRR; clear hRR hd
      cases R with
      | error er =>
        go_wp2_with (go_at_call 33; have hcc := symbols_told HR.out _ g p1 v out most _ lit (.pointer none) none AT.out HH.out.2.2.2.2.2 HM0.out HM1.out C1.out trivial (okl_new HZ.out) (fun z hz => by cases hz) k (by have := HK.out; omega); rw [HRR.out] at hcc; refine hcc.mono ?_; clear hcc; rintro e w' ⟨pp, rfl, hfa, hb⟩)
        exact ⟨rfl, pp, rfl, hfa, (HX.out.between AT.out MV.out.size).trans hb⟩
      | ok r => ?_
      obtain ⟨p2, ys⟩ := r
      go_wp2_with (go_at_call 33; have hcc := symbols_told HR.out _ g p1 v out most _ lit (.pointer none) none AT.out HH.out.2.2.2.2.2 HM0.out HM1.out C1.out trivial (okl_new HZ.out) (fun z hz => by cases hz) k (by have := HK.out; omega); rw [HRR.out] at hcc; refine hcc.mono ?_; clear hcc; rintro e w' ⟨rfl, hq, v', hat, hm⟩)
      refine bodyPost_ret (results_none rfl _ _ _) rfl ?_; exact ⟨rfl, hq, v', hat, MV.out.trans hm⟩
    | false => ?_
    rw [hd] at hb hRR; replace hb : b = true := hb; subst hb; rw [if_neg (by decide)] at hRR; clear hd
    by_cases hz2 : Hu.newS dist = 0
    · rw [if_neg (fun h => h hz2)] at hRR; have HRR := Ak hRR; have HZ2 := Ak hz2; clear hRR hz2
      cases R with
      | error er =>
        go_wp2_with (first | (go_at_call 34; refine (table_ok A2 c2 dist.length dist _ rfl HL2.out.C HZ2.out).mono ?_; rintro e w8 ⟨gt2, rfl, hT, hb⟩; replace C2 := Ak (hT); replace C1 := Ak (C1.out.on hb); replace AT := Ak (AT.out.on hb); replace MV := Ak (MV.out.trans (Moved.of_below g _ hb)); clear hT hb) | (go_at_call 33; have hcc := symbols_told HR.out _ g p1 v out most _ lit _ (some dist) AT.out HH.out.2.2.2.2.2 HM0.out HM1.out C1.out C2.out (okl_new HZ.out) (fun z hz => by injection hz with hz; subst hz; exact okl_new HZ2.out) k (by have := HK.out; omega); rw [HRR.out] at hcc; refine hcc.mono ?_; clear hcc; rintro e w' ⟨pp, rfl, hfa, hb⟩))
        exact ⟨rfl, pp, rfl, hfa, (HX.out.between AT.out MV.out.size).trans hb⟩
      | ok r => ?_
      obtain ⟨p2, ys⟩ := r
      go_wp2_with (first | (go_at_call 34; refine (table_ok A2 c2 dist.length dist _ rfl HL2.out.C HZ2.out).mono ?_; rintro e w8 ⟨gt2, rfl, hT, hb⟩; replace C2 := Ak (hT); replace C1 := Ak (C1.out.on hb); replace AT := Ak (AT.out.on hb); replace MV := Ak (MV.out.trans (Moved.of_below g _ hb)); clear hT hb) | (go_at_call 33; have hcc := symbols_told HR.out _ g p1 v out most _ lit _ (some dist) AT.out HH.out.2.2.2.2.2 HM0.out HM1.out C1.out C2.out (okl_new HZ.out) (fun z hz => by injection hz with hz; subst hz; exact okl_new HZ2.out) k (by have := HK.out; omega); rw [HRR.out] at hcc; refine hcc.mono ?_; clear hcc; rintro e w' ⟨rfl, hq, v', hat, hm⟩))
      go_end0
      exact ⟨rfl, hq, v', hat, MV.out.trans hm⟩
    rw [if_pos hz2] at hRR; have HRR := Ak hRR.symm; have HZ2 := Ak hz2; clear hRR hz2
    go_wp2_with (go_at_call 34; refine (table_bad A2 c2 dist.length dist _ rfl HL2.out.C HZ2.out).mono ?_; rintro e w' ⟨pp, rfl, hfa, hb⟩)
    exact ⟨rfl, by rw [HRR.out]; exact ⟨pp, rfl, hfa, (HX.out.between AT.out MV.out.size).trans (hb.mono AT.out.below.size)⟩⟩
end
-- YtgflkkjhckcipaaGreatDoorIf23
def typedM (l : List Int) (most : Int) (k p : Nat) (out : List Int) (t : Int) : Except Int (Nat × List Int) := if t = 0 then storedM l most p out else if t = 1 then fixedM l most k p out else if t = 2 then dynamicM l most k p out else .error 13
def blockM (l : List Int) (most : Int) (k p : Nat) (out : List Int) : Except Int (Bool × Nat × List Int) :=
  match bitsM l p 1 with
  | .error e => .error e
  | .ok (b, p1) => match bitsM l p1 2 with
    | .error e => .error e
    | .ok (t, p2) => match typedM l most k p2 out t with
      | .error e => .error e
      | .ok (p3, ys) => .ok (b == 1, p3, ys)
def ToldB (w0 w : World) (g : Nat) (A : Option Addr) (c : Nat) (l : List Int) (v : Value) (most : Int) (e : Ending) (w' : World) : Except Int (Bool × Nat × List Int) → Prop
  | .ok (b, p', out') => e = .returned (.bool b) ∧ p' ≤ 8 * l.length ∧ ∃ v', RdrAt w0 w' g A c l (NN l) ((p' : Nat) : Int) v' out' most ∧ Moved w w' g v v'
  | .error er => Gives w0.heap.size w w' er e
section
attribute [local go_sem] Oper.semAt_some
theorem block_told {w0 : World} {A : Option Addr} {c : Nat} {l : List Int} (hr : RowOk w0 A c l) (w : World) (g p : Nat) (v : Value) (out : List Int) (most : Int) (H : RdrAt w0 w g A c l (NN l) (p : Int) v out most) (hp : p ≤ 8 * l.length) (hm0 : (out.length : Int) ≤ most) (hm1 : most ≤ 65536) (k : Nat) (hk : 8 * l.length < k) :
    Calls Tryz.prog 11 #[.pointer (some ⟨g, 0, none⟩)] w fun e w' => ToldB w0 w g A c l v most e w' (blockM l most k p out) := by
  have HR := Ak hr; have HX := Ak H; have AT := Ak H; have MV := Ak (Moved.of_below g v (Below.refl w.heap.size w)); have HP := Ak hp; have huR := Tryz.underlying45; have huB := Tryz.underlying43; have HM0 := Ak hm0; have HM1 := Ak hm1; have HK := Ak hk; clear hr H hp hm0 hm1 hk; obtain ⟨R, hR⟩ : ∃ R, blockM l most k p out = R := ⟨_, rfl⟩; rw [hR]; have hRR := hR; clear hR; unfold blockM at hRR; have hmf : ∀ (fn : Fn) (first cap : Array Value) (w : World), (Instr.makeFunc fn first cap).run Tryz.prog w = .ok (.func fn first cap) w := fun _ _ _ _ => rfl
  cases h1 : bitsM l p 1 with
  | error er =>
    rw [h1] at hRR; have HRR := Ak hRR.symm; have H1 := Ak h1; clear hRR h1; go_enter Tryz.func11, Tryz.ntmps11
    go_wp2_with (go_at_call 17; have hcc := rbits_told' HR.out _ g _ 1 1 rfl v out most AT.out HP.out (by decide); rw [H1.out] at hcc; refine hcc.mono ?_; clear hcc; rintro e w' ⟨pp, rfl, hfa, hb⟩)
    exact ⟨rfl, by rw [HRR.out]; exact ⟨pp, rfl, hfa, (HX.out.between AT.out MV.out.size).trans hb⟩⟩
  | ok r1 => ?_
  obtain ⟨b, p1⟩ := r1; rw [h1] at hRR; dsimp only at hRR; have H1 := Ak h1; clear h1
  cases h2 : bitsM l p1 2 with
  | error er =>
    rw [h2] at hRR; have HRR := Ak hRR.symm; have H2 := Ak h2; clear hRR h2; go_enter Tryz.func11, Tryz.ntmps11
    go_wp2_with (first | (go_at_call 17; have hcc := rbits_told' HR.out _ g _ 1 1 rfl v out most AT.out HP.out (by decide); rw [H1.out] at hcc; refine hcc.mono ?_; clear hcc; rintro e w' ⟨rfl, hq_, hat_, hm_⟩; replace AT := Ak hat_; replace MV := Ak (MV.out.trans hm_); replace HP := Ak hq_; clear hat_ hm_ hq_; clear H1) | (go_at_call 17; have hcc := rbits_told' HR.out _ g _ 2 2 rfl v out most AT.out HP.out (by decide); rw [H2.out] at hcc; refine hcc.mono ?_; clear hcc; rintro e w' ⟨pp, rfl, hfa, hb⟩))
    exact ⟨rfl, by rw [HRR.out]; exact ⟨pp, rfl, hfa, (HX.out.between AT.out MV.out.size).trans hb⟩⟩
  | ok r2 => ?_
  obtain ⟨t, p2⟩ := r2; rw [h2] at hRR; dsimp only at hRR; have H2 := Ak h2; clear h2
  by_cases ht0 : t = 0
  · subst ht0
    cases hs : typedM l most k p2 out 0 with
    | error er =>
      rw [hs] at hRR; dsimp only at hRR; have HRR := Ak hRR.symm; have HS := Ak (show storedM l most p2 out = _ from hs); clear hRR hs; go_enter Tryz.func11, Tryz.ntmps11
      go_wp2_with (first | (go_at_call 17; have hcc := rbits_told' HR.out _ g _ 1 1 rfl v out most AT.out HP.out (by decide); rw [H1.out] at hcc; refine hcc.mono ?_; clear hcc; rintro e w' ⟨rfl, hq_, hat_, hm_⟩; replace AT := Ak hat_; replace MV := Ak (MV.out.trans hm_); replace HP := Ak hq_; clear hat_ hm_ hq_; clear H1) | (go_at_call 17; have hcc := rbits_told' HR.out _ g _ 2 2 rfl v out most AT.out HP.out (by decide); rw [H2.out] at hcc; refine hcc.mono ?_; clear hcc; rintro e w' ⟨rfl, hq_, hat_, hm_⟩; replace AT := Ak hat_; replace MV := Ak (MV.out.trans hm_); replace HP := Ak hq_; clear hat_ hm_ hq_; clear H2) | (go_at_call 18; have hcc := stored_told HR.out _ g p2 v out most AT.out HP.out HM0.out HM1.out; rw [HS.out] at hcc; refine hcc.mono ?_; clear hcc; rintro e w' ⟨pp, rfl, hfa, hb⟩))
      exact ⟨rfl, by rw [HRR.out]; exact ⟨pp, rfl, hfa, (HX.out.between AT.out MV.out.size).trans hb⟩⟩
    | ok r3 => ?_
    obtain ⟨p3, ys⟩ := r3; rw [hs] at hRR; dsimp only at hRR; have HRR := Ak hRR.symm; have HS := Ak (show storedM l most p2 out = _ from hs); clear hRR hs; go_enter Tryz.func11, Tryz.ntmps11
    go_wp2_with (first | (go_at_call 17; have hcc := rbits_told' HR.out _ g _ 1 1 rfl v out most AT.out HP.out (by decide); rw [H1.out] at hcc; refine hcc.mono ?_; clear hcc; rintro e w' ⟨rfl, hq_, hat_, hm_⟩; replace AT := Ak hat_; replace MV := Ak (MV.out.trans hm_); replace HP := Ak hq_; clear hat_ hm_ hq_; clear H1) | (go_at_call 17; have hcc := rbits_told' HR.out _ g _ 2 2 rfl v out most AT.out HP.out (by decide); rw [H2.out] at hcc; refine hcc.mono ?_; clear hcc; rintro e w' ⟨rfl, hq_, hat_, hm_⟩; replace AT := Ak hat_; replace MV := Ak (MV.out.trans hm_); replace HP := Ak hq_; clear hat_ hm_ hq_; clear H2) | (go_at_call 18; have hcc := stored_told HR.out _ g p2 v out most AT.out HP.out HM0.out HM1.out; rw [HS.out] at hcc; refine hcc.mono ?_; clear hcc; rintro e w' ⟨rfl, hq, v', hat, hm⟩))
    go_ret; rw [HRR.out]; exact ⟨rfl, hq, v', hat, MV.out.trans hm⟩
  have q0 := eq_false ht0; have qb0 : (t == 0) = false := beq_eq_false_iff_ne.mpr ht0
  by_cases ht1 : t = 1
  · subst ht1
    cases hs : typedM l most k p2 out 1 with
    | error er =>
      rw [hs] at hRR; dsimp only at hRR; have HRR := Ak hRR.symm; have HS := Ak (show fixedM l most k p2 out = _ from hs); clear hRR hs; go_enter Tryz.func11, Tryz.ntmps11
      go_wp2_with (first | (go_at_call 17; have hcc := rbits_told' HR.out _ g _ 1 1 rfl v out most AT.out HP.out (by decide); rw [H1.out] at hcc; refine hcc.mono ?_; clear hcc; rintro e w' ⟨rfl, hq_, hat_, hm_⟩; replace AT := Ak hat_; replace MV := Ak (MV.out.trans hm_); replace HP := Ak hq_; clear hat_ hm_ hq_; clear H1) | (go_at_call 17; have hcc := rbits_told' HR.out _ g _ 2 2 rfl v out most AT.out HP.out (by decide); rw [H2.out] at hcc; refine hcc.mono ?_; clear hcc; rintro e w' ⟨rfl, hq_, hat_, hm_⟩; replace AT := Ak hat_; replace MV := Ak (MV.out.trans hm_); replace HP := Ak hq_; clear hat_ hm_ hq_; clear H2) | (go_at_call 19; have hcc := fixed_told HR.out _ g p2 v out most AT.out HP.out HM0.out HM1.out k (by have := HK.out; omega); rw [HS.out] at hcc; refine hcc.mono ?_; clear hcc; rintro e w' ⟨pp, rfl, hfa, hb⟩))
      exact ⟨rfl, by rw [HRR.out]; exact ⟨pp, rfl, hfa, (HX.out.between AT.out MV.out.size).trans hb⟩⟩
    | ok r3 => ?_
    obtain ⟨p3, ys⟩ := r3; rw [hs] at hRR; dsimp only at hRR; have HRR := Ak hRR.symm; have HS := Ak (show fixedM l most k p2 out = _ from hs); clear hRR hs; go_enter Tryz.func11, Tryz.ntmps11
    go_wp2_with (first | (go_at_call 17; have hcc := rbits_told' HR.out _ g _ 1 1 rfl v out most AT.out HP.out (by decide); rw [H1.out] at hcc; refine hcc.mono ?_; clear hcc; rintro e w' ⟨rfl, hq_, hat_, hm_⟩; replace AT := Ak hat_; replace MV := Ak (MV.out.trans hm_); replace HP := Ak hq_; clear hat_ hm_ hq_; clear H1) | (go_at_call 17; have hcc := rbits_told' HR.out _ g _ 2 2 rfl v out most AT.out HP.out (by decide); rw [H2.out] at hcc; refine hcc.mono ?_; clear hcc; rintro e w' ⟨rfl, hq_, hat_, hm_⟩; replace AT := Ak hat_; replace MV := Ak (MV.out.trans hm_); replace HP := Ak hq_; clear hat_ hm_ hq_; clear H2) | (go_at_call 19; have hcc := fixed_told HR.out _ g p2 v out most AT.out HP.out HM0.out HM1.out k (by have := HK.out; omega); rw [HS.out] at hcc; refine hcc.mono ?_; clear hcc; rintro e w' ⟨rfl, hq, v', hat, hm⟩))
    go_ret; rw [HRR.out]; exact ⟨rfl, hq, v', hat, MV.out.trans hm⟩
  have q1 := eq_false ht1; have qb1 : (t == 1) = false := beq_eq_false_iff_ne.mpr ht1
  by_cases ht2 : t = 2
  rotate_left
  · have q2 := eq_false ht2; have qb2 : (t == 2) = false := beq_eq_false_iff_ne.mpr ht2; rw [show typedM l most k p2 out t = .error 13 from by unfold typedM; rw [if_neg ht0, if_neg ht1, if_neg ht2]] at hRR; have HRR := Ak hRR.symm; clear hRR ht0 ht1 ht2; go_enter Tryz.func11, Tryz.ntmps11
    go_wp2_with (first | (go_at_call 17; have hcc := rbits_told' HR.out _ g _ 1 1 rfl v out most AT.out HP.out (by decide); rw [H1.out] at hcc; refine hcc.mono ?_; clear hcc; rintro e w' ⟨rfl, hq_, hat_, hm_⟩; replace AT := Ak hat_; replace MV := Ak (MV.out.trans hm_); replace HP := Ak hq_; clear hat_ hm_ hq_; clear H1) | (go_at_call 17; have hcc := rbits_told' HR.out _ g _ 2 2 rfl v out most AT.out HP.out (by decide); rw [H2.out] at hcc; refine hcc.mono ?_; clear hcc; rintro e w' ⟨rfl, hq_, hat_, hm_⟩; replace AT := Ak hat_; replace MV := Ak (MV.out.trans hm_); replace HP := Ak hq_; clear hat_ hm_ hq_; clear H2) | (go_at_call 21; refine (stop_calls 13 _).mono ?_; rintro e w' ⟨pp, rfl, hfa, hb⟩))
    exact ⟨rfl, by rw [HRR.out]; exact ⟨pp, rfl, hfa, (HX.out.between AT.out MV.out.size).trans (hb.mono AT.out.below.size)⟩⟩
  subst ht2
  cases hs : typedM l most k p2 out 2 with
  | error er =>
    rw [hs] at hRR; dsimp only at hRR; have HRR := Ak hRR.symm; have HS := Ak (show dynamicM l most k p2 out = _ from hs); clear hRR hs; go_enter Tryz.func11, Tryz.ntmps11
    go_wp2_with (first | (go_at_call 17; have hcc := rbits_told' HR.out _ g _ 1 1 rfl v out most AT.out HP.out (by decide); rw [H1.out] at hcc; refine hcc.mono ?_; clear hcc; rintro e w' ⟨rfl, hq_, hat_, hm_⟩; replace AT := Ak hat_; replace MV := Ak (MV.out.trans hm_); replace HP := Ak hq_; clear hat_ hm_ hq_; clear H1) | (go_at_call 17; have hcc := rbits_told' HR.out _ g _ 2 2 rfl v out most AT.out HP.out (by decide); rw [H2.out] at hcc; refine hcc.mono ?_; clear hcc; rintro e w' ⟨rfl, hq_, hat_, hm_⟩; replace AT := Ak hat_; replace MV := Ak (MV.out.trans hm_); replace HP := Ak hq_; clear hat_ hm_ hq_; clear H2) | (go_at_call 20; have hcc := dynamic_told HR.out _ g p2 v out most AT.out HP.out HM0.out HM1.out k HK.out; rw [HS.out] at hcc; refine hcc.mono ?_; clear hcc; rintro e w' ⟨pp, rfl, hfa, hb⟩))
    exact ⟨rfl, by rw [HRR.out]; exact ⟨pp, rfl, hfa, (HX.out.between AT.out MV.out.size).trans hb⟩⟩
  | ok r3 => ?_
  obtain ⟨p3, ys⟩ := r3; rw [hs] at hRR; dsimp only at hRR; have HRR := Ak hRR.symm; have HS := Ak (show dynamicM l most k p2 out = _ from hs); clear hRR hs; go_enter Tryz.func11, Tryz.ntmps11
  go_wp2_with (first | (go_at_call 17; have hcc := rbits_told' HR.out _ g _ 1 1 rfl v out most AT.out HP.out (by decide); rw [H1.out] at hcc; refine hcc.mono ?_; clear hcc; rintro e w' ⟨rfl, hq_, hat_, hm_⟩; replace AT := Ak hat_; replace MV := Ak (MV.out.trans hm_); replace HP := Ak hq_; clear hat_ hm_ hq_; clear H1) | (go_at_call 17; have hcc := rbits_told' HR.out _ g _ 2 2 rfl v out most AT.out HP.out (by decide); rw [H2.out] at hcc; refine hcc.mono ?_; clear hcc; rintro e w' ⟨rfl, hq_, hat_, hm_⟩; replace AT := Ak hat_; replace MV := Ak (MV.out.trans hm_); replace HP := Ak hq_; clear hat_ hm_ hq_; clear H2) | (go_at_call 20; have hcc := dynamic_told HR.out _ g p2 v out most AT.out HP.out HM0.out HM1.out k HK.out; rw [HS.out] at hcc; refine hcc.mono ?_; clear hcc; rintro e w' ⟨rfl, hq, v', hat, hm⟩))
  go_ret; rw [HRR.out]; exact ⟨rfl, hq, v', hat, MV.out.trans hm⟩
end
-- YtgflkkjhckcipaaGreatDoorIf26
def bnd {α β : Type} (r : Except Int α) (k : α → Except Int β) : Except Int β := match r with | .error e => .error e | .ok x => k x
def Lim {α : Type} (B er : Int) (sh : Prop) (p : Nat) (pl : α → Nat) (r r' : Except Int α) : Prop :=
  ∀ x, r = .ok x → p ≤ pl x ∧ ((p : Int) ≤ B → (((pl x : Nat) : Int) ≤ B → r' = .ok x) ∧ (B < ((pl x : Nat) : Int) → sh → r' = .error er))
theorem Lim.bnd {α β : Type} {B er : Int} {sh : Prop} {p : Nat} {pl : α → Nat} {pl2 : β → Nat} {r r' : Except Int α} {k k' : α → Except Int β} (h : Lim B er sh p pl r r') (hk : ∀ x, r = .ok x → Lim B er sh (pl x) pl2 (k x) (k' x)) : Lim B er sh p pl2 (bnd r k) (bnd r' k') := by
  intro y hy
  cases hr : r with
  | error e => rw [hr] at hy; cases hy
  | ok x => ?_
  rw [hr] at hy; have h1 := h x hr; have h2 := hk x hr y hy; refine ⟨Nat.le_trans h1.1 h2.1, fun hp => ?_⟩; have h3 := h1.2 hp
  by_cases hx : ((pl x : Nat) : Int) ≤ B
  · rw [h3.1 hx]; exact h2.2 hx
  have h4 := h2.1; refine ⟨fun hy2 => absurd hy2 (by omega), fun _ hs => ?_⟩; rw [h3.2 (by omega) hs]
  rfl
theorem Lim.same {α : Type} (B er : Int) (sh : Prop) (p : Nat) (r : Except Int α) : Lim B er sh p (fun _ => p) r r := fun x hx => ⟨Nat.le_refl _, fun hp => ⟨fun _ => hx, fun h => absurd hp (by dsimp only at h; omega)⟩⟩
theorem Lim.err {α : Type} (B er : Int) (sh : Prop) (p : Nat) (pl : α → Nat) (e : Int) (r' : Except Int α) : Lim B er sh p pl (.error e) r' := fun x hx => by cases hx
theorem Lim.ret {α : Type} (B er : Int) (sh : Prop) (p : Nat) (pl : α → Nat) (x : α) (h : pl x = p) : Lim B er sh p pl (.ok x) (.ok x) := fun y hy => by
  injection hy with hy
  subst hy; exact ⟨by omega, fun hp => ⟨fun _ => rfl, fun h2 => absurd hp (by omega)⟩⟩
theorem Lim.cond {α : Type} {B er : Int} {sh : Prop} {p : Nat} {pl : α → Nat} {c : Prop} [Decidable c] {a b a' b' : Except Int α} (ha : c → Lim B er sh p pl a a') (hb : ¬ c → Lim B er sh p pl b b') : Lim B er sh p pl (if c then a else b) (if c then a' else b') := by
  by_cases h : c
  · rw [if_pos h, if_pos h]; exact ha h
  rw [if_neg h, if_neg h]; exact hb h
def Bad {α : Type} (r : Except Int α) : Prop := ∀ er, r = .error er → er ≠ 0
theorem Bad.bnd {α β : Type} {r : Except Int α} {k : α → Except Int β} (h : Bad r) (hk : ∀ x, r = .ok x → Bad (k x)) : Bad (bnd r k) := by
  intro er he
  cases hr : r with
  | error e =>
    rw [hr] at he
    injection he with he
    subst he; exact h e hr
  | ok x => rw [hr] at he; exact hk x hr er he
theorem Bad.ok {α : Type} (x : α) : Bad (.ok x : Except Int α) := fun er h => by cases h
theorem Bad.err {α : Type} {e : Int} (h : e ≠ 0) : Bad (.error e : Except Int α) := fun er h2 => by injection h2 with h2; omega
theorem Bad.cond {α : Type} {c : Prop} [Decidable c] {a b : Except Int α} (ha : c → Bad a) (hb : ¬ c → Bad b) : Bad (if c then a else b) := by
  by_cases h : c
  · rw [if_pos h]; exact ha h
  rw [if_neg h]; exact hb h
def Tells {α : Type} (r : Except Int α) (T : α → Prop) : Prop := ∀ x, r = .ok x → T x
theorem Tells.bnd {α β : Type} {r : Except Int α} {k : α → Except Int β} {T : α → Prop} {T2 : β → Prop} (h : Tells r T) (hk : ∀ x, T x → Tells (k x) T2) : Tells (bnd r k) T2 := by
  intro y hy
  cases hr : r with
  | error e => rw [hr] at hy; cases hy
  | ok x => rw [hr] at hy; exact hk x (h x hr) y hy
theorem Tells.err {α : Type} {e : Int} {T : α → Prop} : Tells (.error e : Except Int α) T := fun x h => by cases h
theorem Tells.ok {α : Type} {x : α} {T : α → Prop} (h : T x) : Tells (.ok x) T := fun y e => by injection e with e; subst e; exact h
theorem Tells.cond {α : Type} {c : Prop} [Decidable c] {a b : Except Int α} {T : α → Prop} (ha : c → Tells a T) (hb : ¬ c → Tells b T) : Tells (if c then a else b) T := by
  by_cases h : c
  · rw [if_pos h]; exact ha h
  rw [if_neg h]; exact hb h
theorem storedM_b (l : List Int) (most : Int) (p : Nat) (out : List Int) : storedM l most p out = bnd (bitsM l ((p + 7) / 8 * 8) 16) fun r1 => bnd (bitsM l r1.2 16) fun r2 => if r2.1 ≠ 65535 - r1.1 then .error 5 else if r1.1 > most - (out.length : Int) then .error 3 else if ((8 * l.length - r2.2) / 8 : Nat) < r1.1.toNat then .error 4 else .ok (r2.2 + 8 * r1.1.toNat, out ++ (l.drop (r2.2 / 8)).take r1.1.toNat) := by
  unfold storedM bnd
  cases bitsM l ((p + 7) / 8 * 8) 16 with
  | error e => rfl
  | ok r1 => ?_
  obtain ⟨n, p1⟩ := r1; dsimp only
  cases bitsM l p1 16 with
  | error e => rfl
  | ok r2 => rfl
theorem copiedM_b (l : List Int) (most : Int) (dist : Option (List Int)) (s : Int) (p : Nat) (out : List Int) : copiedM l most dist s p out = match lenP s with
    | none => .error 13
    | some kb => bnd (bitsM l p kb.1) fun r1 => bnd (symM l dist r1.2) fun r2 => match distP r2.1 with
      | none => .error 13
      | some db => bnd (bitsM l r2.2 db.1) fun r3 => if db.2 + r3.1.toNat > out.length then .error 14 else if ((kb.2 + r1.1.toNat : Nat) : Int) > most - (out.length : Int) then .error 3 else .ok (r3.2, copyL out (db.2 + r3.1.toNat) (kb.2 + r1.1.toNat)) := by
  unfold copiedM
  cases lenP s with
  | none => rfl
  | some kb => ?_
  obtain ⟨k, base⟩ := kb; dsimp only; unfold bnd
  cases bitsM l p k with
  | error e => rfl
  | ok r1 => ?_
  obtain ⟨x, p1⟩ := r1; dsimp only
  cases symM l dist p1 with
  | error e => rfl
  | ok r2 => ?_
  obtain ⟨d, p2⟩ := r2; dsimp only
  cases distP d with
  | none => rfl
  | some db => ?_
  obtain ⟨kd, bd⟩ := db; dsimp only
  cases bitsM l p2 kd with
  | error e => rfl
  | ok r3 => rfl
theorem symbolsM_b (l : List Int) (most : Int) (lit : List Int) (dist : Option (List Int)) (k p : Nat) (out : List Int) : symbolsM l most lit dist (k + 1) p out = bnd (symM l (some lit) p) fun r1 => if r1.1 = 256 then .ok (r1.2, out) else if r1.1 > 256 then bnd (copiedM l most dist r1.1 r1.2 out) fun r2 => symbolsM l most lit dist k r2.1 r2.2 else if 1 > most - (out.length : Int) then .error 3 else symbolsM l most lit dist k r1.2 (out ++ [r1.1]) := by
  rw [symbolsM]; unfold bnd
  cases symM l (some lit) p with
  | error e => rfl
  | ok r1 => ?_
  obtain ⟨s, p1⟩ := r1; dsimp only
  split
  · rfl
  split
  · cases copiedM l most dist s p1 out with
    | error e => rfl
    | ok r2 => rfl
  rfl
theorem codesM_b (l : List Int) (d i p : Nat) (lens : List Int) : codesM l (d + 1) i p lens = bnd (bitsM l p 3) fun r1 => codesM l d (i + 1) r1.2 (lens.set (orderL.getD i 0) r1.1) := by
  rw [codesM]; unfold bnd
  cases bitsM l p 3 with
  | error e => rfl
  | ok r1 => rfl
theorem lengthsM_b (l z : List Int) (n k p : Nat) (out : List Int) : lengthsM l z n (k + 1) p out = if out.length < n then bnd (symM l (some z) p) fun r1 => bnd (bitsM l r1.2 (extraN r1.1)) fun r2 => bnd (takeM out r1.1 r2.1 n) fun out2 => lengthsM l z n k r2.2 out2 else .ok (out, p) := by
  rw [lengthsM]
  split
  · unfold bnd
    cases symM l (some z) p with
    | error e => rfl
    | ok r1 => ?_
    obtain ⟨s, p1⟩ := r1; dsimp only
    cases bitsM l p1 (extraN s) with
    | error e => rfl
    | ok r2 => ?_
    obtain ⟨x, p2⟩ := r2; dsimp only
    cases takeM out s x n with
    | error e => rfl
    | ok o => rfl
  rfl
theorem headerM_b (l : List Int) (k p : Nat) : headerM l k p = bnd (bitsM l p 5) fun r1 => bnd (bitsM l r1.2 5) fun r2 => if 257 + r1.1 > 286 ∨ 1 + r2.1 > 30 then .error 3 else bnd (bitsM l r2.2 4) fun r3 => bnd (codesM l (4 + r3.1.toNat) 0 r3.2 (List.replicate 19 0)) fun r4 => bnd (lengthsM l r4.1 (257 + r1.1.toNat + (1 + r2.1.toNat)) k r4.2 []) fun r5 => .ok (r5.1.take (257 + r1.1.toNat), r5.1.drop (257 + r1.1.toNat), r5.2) := by
  unfold headerM bnd
  cases bitsM l p 5 with
  | error e => rfl
  | ok r1 => ?_
  obtain ⟨x, p1⟩ := r1; dsimp only
  cases bitsM l p1 5 with
  | error e => rfl
  | ok r2 => ?_
  obtain ⟨y, p2⟩ := r2; dsimp only
  split
  · rfl
  cases bitsM l p2 4 with
  | error e => rfl
  | ok r3 => ?_
  obtain ⟨q, p3⟩ := r3; dsimp only
  cases codesM l (4 + q.toNat) 0 p3 (List.replicate 19 0) with
  | error e => rfl
  | ok r4 => ?_
  obtain ⟨z, p4⟩ := r4; dsimp only
  cases lengthsM l z (257 + x.toNat + (1 + y.toNat)) k p4 [] with
  | error e => rfl
  | ok r5 => rfl
theorem dynamicM_b (l : List Int) (most : Int) (k p : Nat) (out : List Int) : dynamicM l most k p out = bnd (headerM l k p) fun r1 => if r1.1.getD 256 0 = 0 then .error 13 else if Hu.newS r1.1 ≠ 0 then .error (Hu.newS r1.1) else if r1.2.1.all (· == 0) then symbolsM l most r1.1 none k r1.2.2 out else if Hu.newS r1.2.1 ≠ 0 then .error (Hu.newS r1.2.1) else symbolsM l most r1.1 (some r1.2.1) k r1.2.2 out := by
  unfold dynamicM bnd
  cases headerM l k p with
  | error e => rfl
  | ok r1 => rfl
theorem blockM_b (l : List Int) (most : Int) (k p : Nat) (out : List Int) : blockM l most k p out = bnd (bitsM l p 1) fun r1 => bnd (bitsM l r1.2 2) fun r2 => bnd (typedM l most k r2.2 out r2.1) fun r3 => .ok (r1.1 == 1, r3.1, r3.2) := by
  unfold blockM bnd
  cases bitsM l p 1 with
  | error e => rfl
  | ok r1 => ?_
  obtain ⟨x, p1⟩ := r1; dsimp only
  cases bitsM l p1 2 with
  | error e => rfl
  | ok r2 => ?_
  obtain ⟨y, p2⟩ := r2; dsimp only
  cases typedM l most k p2 out y with
  | error e => rfl
  | ok r3 => rfl
def decodeM (l : List Int) (most : Int) (k : Nat) : Nat → Nat → List Int → Except Int (Nat × List Int)
  | 0, _, _ => .error 0
  | d + 1, p, out => bnd (blockM l most k p out) fun r => if r.1 then .ok r.2 else decodeM l most k d r.2.1 r.2.2
structure Alike (l l' : List Int) (m : Nat) : Prop where
  take : l.take m = l'.take m
  le : m ≤ l.length
  le' : m ≤ l'.length
theorem Alike.get {l l' : List Int} {m : Nat} (h : Alike l l' m) {i : Nat} (hi : i < m) : l.getD i 0 = l'.getD i 0 := by
  have h1 : (l.take m).getD i 0 = (l'.take m).getD i 0 := by rw [h.take]
  have h2 := h.le; have h3 := h.le'; rw [List.getD_eq_getElem?_getD, List.getD_eq_getElem?_getD, List.getElem?_take_of_lt hi, List.getElem?_take_of_lt hi] at h1; rw [List.getD_eq_getElem?_getD, List.getD_eq_getElem?_getD]; exact h1
theorem Alike.bat {l l' : List Int} {m : Nat} (h : Alike l l' m) {k : Nat} (hk : k < 8 * m) : bat l k = bat l' k := by
  unfold Pr.bat; rw [h.get (by omega)]
theorem Alike.getV {l l' : List Int} {m : Nat} (h : Alike l l' m) {p : Nat} : ∀ {n : Nat}, p + n ≤ 8 * m → getV l p n = getV l' p n
  | 0, _ => rfl
  | n + 1, hn => by
    rw [Pr.getV, Pr.getV, h.getV (n := n) (by omega), h.bat (by omega)]
theorem Alike.slice {l l' : List Int} {m : Nat} (h : Alike l l' m) {a n : Nat} (hn : a + n ≤ m) : (l.drop a).take n = (l'.drop a).take n := by
  have e : ∀ x : List Int, (x.drop a).take n = (((x.take m).drop a).take n) := fun x => by
    rw [List.drop_take, List.take_take, Nat.min_eq_left (by omega)]
  rw [e l, e l', h.take]
abbrev Cut {α : Type} (m : Nat) (l' : List Int) (p : Nat) (pl : α → Nat) (r r' : Except Int α) : Prop := Lim ((8 * m : Nat) : Int) 4 (l'.length = m) p pl r r'
theorem bits_cut {l l' : List Int} {m : Nat} (h : Alike l l' m) (p n : Nat) : Cut m l' p Prod.snd (bitsM l p n) (bitsM l' p n) := by
  intro x hx; have h1 := h.le'; unfold bitsM at hx; split at hx
  · injection hx with hx
    subst hx; dsimp only; refine ⟨by omega, fun hp => ⟨fun hx => ?_, fun hx hs => ?_⟩⟩
    · unfold bitsM; rw [if_pos (by omega), h.getV (by omega)]
    unfold bitsM; rw [if_neg (by omega)]
  cases hx
theorem scan_cut {l l' : List Int} {m : Nat} (h : Alike l l' m) (z : List Int) : ∀ d p v, (scan z l (8 * l.length) d p v).2.2 = 0 → ∃ q : Nat, (scan z l (8 * l.length) d p v).2.1 = (q : Int) ∧ p < q ∧ (q ≤ 8 * m → scan z l' (8 * l'.length) d p v = scan z l (8 * l.length) d p v) ∧ (p ≤ 8 * m → 8 * m < q → l'.length = m → (scan z l' (8 * l'.length) d p v).2.2 = 4)
  | 0, p, v, h0 => by simp [scan] at h0
  | d + 1, p, v, h0 => by
    have hle := h.le; have hle' := h.le'
    by_cases hp : 8 * l.length ≤ p
    · rw [scan, if_pos hp] at h0; exact absurd h0 (by decide)
    · by_cases hm : p < 8 * m
      · have e := h.bat hm; rw [scan, if_neg hp, e] at h0 ⊢; rw [scan, if_neg (show ¬ 8 * l'.length ≤ p by omega)]; split at h0
        · next c => rw [if_pos c, if_pos c]; exact ⟨p + 1, rfl, by omega, fun _ => rfl, fun _ hq => by omega⟩
        · next c =>
          rw [if_neg c, if_neg c]; split at h0
          · exact absurd h0 (by decide)
          · next c2 =>
            rw [if_neg c2, if_neg c2]; obtain ⟨q, h1, h2, h3, h4⟩ := scan_cut h z d (p + 1) _ h0; exact ⟨q, h1, by omega, h3, fun _ => h4 (by omega)⟩
      · have hq : ∃ q : Nat, (scan z l (8 * l.length) (d + 1) p v).2.1 = (q : Int) ∧ p < q := by
          rw [scan, if_neg hp] at h0 ⊢; split at h0
          · next c => rw [if_pos c]; exact ⟨p + 1, rfl, by omega⟩
          · next c =>
            rw [if_neg c]; split at h0
            · exact absurd h0 (by decide)
            · next c2 =>
              rw [if_neg c2]; obtain ⟨q, h1, h2, _⟩ := scan_cut h z d (p + 1) _ h0; exact ⟨q, h1, by omega⟩
        obtain ⟨q, h1, h2⟩ := hq; refine ⟨q, h1, h2, fun h3 => by omega, fun _ _ hs => ?_⟩; rw [scan, if_pos (by omega)]
theorem sym_cut {l l' : List Int} {m : Nat} (h : Alike l l' m) (t : Option (List Int)) (p : Nat) : Lim ((8 * m : Nat) : Int) 4 (l'.length = m) p Prod.snd (symM l t p) (symM l' t p) := by
  intro x hx
  cases t with
  | none => cases hx
  | some z => ?_
  unfold symM at hx ⊢; dsimp only at hx ⊢; split at hx
  · next h0 =>
    obtain ⟨q, h1, h2, h3, h4⟩ := scan_cut h z 15 p 0 h0
    injection hx with hx
    subst hx; rw [h1]; dsimp only; rw [Int.toNat_natCast]; refine ⟨by omega, fun hp => ⟨fun hq => ?_, fun hq hs => ?_⟩⟩
    · rw [h3 (by omega), if_pos h0, h1, Int.toNat_natCast]
    have h5 := h4 (by omega) (by omega) hs; rw [h5, if_neg (by decide)]
  cases hx
theorem sym_more {l : List Int} {t : Option (List Int)} {p : Nat} {r : Int × Nat} (h : symM l t p = .ok r) : p < r.2 := by
  cases t with
  | none => cases h
  | some z => ?_
  unfold symM at h; dsimp only at h; split at h
  · next h0 =>
    obtain ⟨q, h1, h2, _⟩ := scan_cut (l := l) (l' := l) (m := l.length) ⟨rfl, Nat.le_refl _, Nat.le_refl _⟩ z 15 p 0 h0
    injection h with h
    subst h; rw [h1]; dsimp only
    omega
  cases h
theorem stored_cut {l l' : List Int} {m : Nat} (h : Alike l l' m) (most : Int) (p : Nat) (out : List Int) : Cut m l' p Prod.fst (storedM l most p out) (storedM l' most p out) := by
  rw [storedM_b, storedM_b]; have hle := h.le; have hle' := h.le'
  have hal : Cut m l' p Prod.snd (bitsM l ((p + 7) / 8 * 8) 16) (bitsM l' ((p + 7) / 8 * 8) 16) := by
    intro x hx; have h1 := bits_cut h ((p + 7) / 8 * 8) 16 x hx; exact ⟨by omega, fun hp => h1.2 (by omega)⟩
  refine hal.bnd fun r1 h1 => (bits_cut h r1.2 16).bnd fun r2 h2 => ?_; obtain ⟨n, p1⟩ := r1; obtain ⟨x, p2⟩ := r2; have o1 := bitsM_ok h1; have o2 := bitsM_ok h2; have n1 := getV_range l ((p + 7) / 8 * 8) 16; dsimp only at *; refine .cond (fun _ => .err _ _ _ _ _ _ _) fun _ => .cond (fun _ => .err _ _ _ _ _ _ _) fun _ => ?_; intro y hy; split at hy
  · cases hy
  next hs =>
  injection hy with hy
  subst hy; dsimp only; refine ⟨by omega, fun hp => ⟨fun hq => ?_, fun hq hs => ?_⟩⟩
  · rw [if_neg (by omega), h.slice (by omega)]
  rw [if_pos (by omega)]
theorem copied_cut {l l' : List Int} {m : Nat} (h : Alike l l' m) (most : Int) (dist : Option (List Int)) (s : Int) (p : Nat) (out : List Int) : Cut m l' p Prod.fst (copiedM l most dist s p out) (copiedM l' most dist s p out) := by
  rw [copiedM_b, copiedM_b]
  cases lenP s with
  | none => exact .err _ _ _ _ _ _ _
  | some kb => ?_
  refine (bits_cut h p kb.1).bnd fun r1 _ => (sym_cut h dist r1.2).bnd fun r2 _ => ?_
  cases distP r2.1 with
  | none => exact .err _ _ _ _ _ _ _
  | some db => exact (bits_cut h r2.2 db.1).bnd fun r3 _ => .cond (fun _ => .err _ _ _ _ _ _ _) fun _ => .cond (fun _ => .err _ _ _ _ _ _ _) fun _ => .ret _ _ _ _ _ _ rfl
theorem Lim.beyond {α : Type} {B er : Int} {sh : Prop} {p : Nat} {pl : α → Nat} {r r1 : Except Int α} (h : Lim B er sh p pl r r1) (hB : B < (p : Int)) (r2 : Except Int α) : Lim B er sh p pl r r2 := fun x hx => ⟨(h x hx).1, fun hp => absurd hp (by omega)⟩
theorem symbols_cut {l l' : List Int} {m : Nat} (h : Alike l l' m) (most : Int) (lit : List Int) (dist : Option (List Int)) (k : Nat) : ∀ k' p out, (p ≤ 8 * m → 8 * l'.length < k' + p) → Cut m l' p Prod.fst (symbolsM l most lit dist k p out) (symbolsM l' most lit dist k' p out) := by
  induction k with
  | zero => exact fun k' p out hk => .err _ _ _ _ _ _ _
  | succ k ih =>
    have main : ∀ k' p out, (p ≤ 8 * m → 8 * l'.length < k' + 1 + p) → Cut m l' p Prod.fst (symbolsM l most lit dist (k + 1) p out) (symbolsM l' most lit dist (k' + 1) p out) := by
      intro k' p out hk; rw [symbolsM_b, symbolsM_b]; refine (sym_cut h (some lit) p).bnd fun r1 h1 => ?_; have h2 := sym_more h1; refine .cond (fun _ => .ret _ _ _ _ _ _ rfl) fun _ => .cond (fun _ => ?_) fun _ => .cond (fun _ => .err _ _ _ _ _ _ _) fun _ => ih k' r1.2 _ (fun h3 => by have := hk (by omega); omega); refine (copied_cut h most dist r1.1 r1.2 out).bnd fun r2 h4 => ih k' r2.1 _ (fun h3 => ?_); have h5 := (copied_cut h most dist r1.1 r1.2 out r2 h4).1; have := hk (by omega)
      omega
    intro k' p out hk
    cases k' with
    | zero =>
      have hle' := h.le'; exact (main (8 * l'.length) p out (fun _ => by omega)).beyond (by apply Int.ofNat_lt.mpr; apply Nat.lt_of_not_le; intro hp; have := hk hp; omega) _
    | succ k' => exact main k' p out hk
theorem codes_cut {l l' : List Int} {m : Nat} (h : Alike l l' m) : ∀ d i p lens, Cut m l' p Prod.snd (codesM l d i p lens) (codesM l' d i p lens)
  | 0, i, p, lens => by
    rw [codesM, codesM]; exact .cond (fun _ => .ret _ _ _ _ _ _ rfl) fun _ => .err _ _ _ _ _ _ _
  | d + 1, i, p, lens => by
    rw [codesM_b, codesM_b]; exact (bits_cut h p 3).bnd fun r1 _ => codes_cut h d (i + 1) r1.2 _
theorem lengths_cut {l l' : List Int} {m : Nat} (h : Alike l l' m) (z : List Int) (n k : Nat) : ∀ k' p out, (p ≤ 8 * m → 8 * l'.length < k' + p) → Cut m l' p Prod.snd (lengthsM l z n k p out) (lengthsM l' z n k' p out) := by
  induction k with
  | zero => exact fun k' p out hk => .err _ _ _ _ _ _ _
  | succ k ih =>
    have main : ∀ k' p out, (p ≤ 8 * m → 8 * l'.length < k' + 1 + p) → Cut m l' p Prod.snd (lengthsM l z n (k + 1) p out) (lengthsM l' z n (k' + 1) p out) := by
      intro k' p out hk; rw [lengthsM_b, lengthsM_b]; refine .cond (fun _ => (sym_cut h (some z) p).bnd fun r1 h1 => ?_) fun _ => .ret _ _ _ _ _ _ rfl; have h2 := sym_more h1; refine (bits_cut h r1.2 (extraN r1.1)).bnd fun r2 h4 => ?_; have h5 := (bits_cut h r1.2 (extraN r1.1) r2 h4).1; exact (Lim.same _ _ _ r2.2 (takeM out r1.1 r2.1 n)).bnd fun out2 _ => ih k' r2.2 _ (fun h3 => by have := hk (by omega); omega)
    intro k' p out hk
    cases k' with
    | zero =>
      have hle' := h.le'; exact (main (8 * l'.length) p out (fun _ => by omega)).beyond (by apply Int.ofNat_lt.mpr; apply Nat.lt_of_not_le; intro hp; have := hk hp; omega) _
    | succ k' => exact main k' p out hk
theorem header_cut {l l' : List Int} {m : Nat} (h : Alike l l' m) (k k' p : Nat) (hk : 8 * l'.length < k') : Cut m l' p (fun r => r.2.2) (headerM l k p) (headerM l' k' p) := by
  rw [headerM_b, headerM_b]; refine (bits_cut h p 5).bnd fun r1 _ => (bits_cut h r1.2 5).bnd fun r2 _ => .cond (fun _ => .err _ _ _ _ _ _ _) fun _ => (bits_cut h r2.2 4).bnd fun r3 _ => (codes_cut h _ 0 r3.2 _).bnd fun r4 _ => (lengths_cut h r4.1 _ k k' r4.2 [] (fun _ => by omega)).bnd fun r5 _ => .ret _ _ _ _ _ _ rfl
theorem typed_cut {l l' : List Int} {m : Nat} (h : Alike l l' m) (most : Int) (k k' p : Nat) (out : List Int) (t : Int) (hk : 8 * l'.length < k') : Cut m l' p Prod.fst (typedM l most k p out t) (typedM l' most k' p out t) := by
  unfold typedM; refine .cond (fun _ => stored_cut h most p out) fun _ => .cond (fun _ => symbols_cut h most _ _ k k' p out (fun _ => by omega)) fun _ => .cond (fun _ => ?_) fun _ => .err _ _ _ _ _ _ _; rw [dynamicM_b, dynamicM_b]; exact (header_cut h k k' p hk).bnd fun r1 _ => .cond (fun _ => .err _ _ _ _ _ _ _) fun _ => .cond (fun _ => .err _ _ _ _ _ _ _) fun _ => .cond (fun _ => symbols_cut h most _ _ k k' _ out (fun _ => by omega)) fun _ => .cond (fun _ => .err _ _ _ _ _ _ _) fun _ => symbols_cut h most _ _ k k' _ out (fun _ => by omega)
theorem block_more {l : List Int} {most : Int} {k p : Nat} {out : List Int} {r : Bool × Nat × List Int} (h : blockM l most k p out = .ok r) : p < r.2.1 := by
  have ha : Alike l l l.length := ⟨rfl, Nat.le_refl _, Nat.le_refl _⟩; rw [blockM_b] at h
  have hT : Tells (blockM l most k p out) (fun r => p < r.2.1) := by
    rw [blockM_b]; refine Tells.bnd (T := fun r1 => p < r1.2) (fun x hx => by have := bitsM_ok hx; omega) fun r1 h1 => Tells.bnd (T := fun r2 => p < r2.2) (fun x hx => by have := bitsM_ok hx; omega) fun r2 h2 => ?_; refine Tells.bnd (T := fun r3 => p < r3.1) (fun x hx => ?_) fun r3 h3 => Tells.ok h3; have := (typed_cut ha most k (8 * l.length + 1) r2.2 out r2.1 (by omega) x hx).1
    omega
  exact hT r (by rw [blockM_b]; exact h)
abbrev Fits {α : Type} (most : Int) (out : List Int) (ys : α → List Int) (r : Except Int α) : Prop := (out.length : Int) ≤ most → Tells r fun x => ((ys x).length : Int) ≤ most
theorem stored_fits (l : List Int) (most : Int) (p : Nat) (out : List Int) : Fits most out Prod.snd (storedM l most p out) := by
  intro ho; rw [storedM_b]; refine Tells.bnd (T := fun r => 0 ≤ r.1) (fun x hx => by have h1 := bitsM_ok hx; have h2 := getV_range l ((p + 7) / 8 * 8) 16; omega) fun r1 h1 => Tells.bnd (T := fun _ => True) (fun _ _ => trivial) fun r2 _ => .cond (fun _ => .err) fun _ => .cond (fun _ => .err) fun hr => .cond (fun _ => .err) fun _ => .ok ?_; dsimp only; rw [List.length_append, List.length_take]
  omega
theorem copied_fits (l : List Int) (most : Int) (dist : Option (List Int)) (s : Int) (p : Nat) (out : List Int) : Fits most out Prod.snd (copiedM l most dist s p out) := by
  intro ho; rw [copiedM_b]
  cases lenP s with
  | none => exact .err
  | some kb => ?_
  refine Tells.bnd (T := fun _ => True) (fun _ _ => trivial) fun r1 _ => Tells.bnd (T := fun _ => True) (fun _ _ => trivial) fun r2 _ => ?_
  cases distP r2.1 with
  | none => exact .err
  | some db => ?_
  refine Tells.bnd (T := fun _ => True) (fun _ _ => trivial) fun r3 _ => .cond (fun _ => .err) fun _ => .cond (fun _ => .err) fun hr => .ok ?_; dsimp only; rw [copyL_len]
  omega
theorem symbols_fits (l : List Int) (most : Int) (lit : List Int) (dist : Option (List Int)) : ∀ k p out, Fits most out Prod.snd (symbolsM l most lit dist k p out)
  | 0, p, out => fun _ => .err
  | k + 1, p, out => by
    intro ho; rw [symbolsM_b]; refine Tells.bnd (T := fun _ => True) (fun _ _ => trivial) fun r1 _ => .cond (fun _ => .ok ho) fun _ => .cond (fun _ => Tells.bnd (copied_fits l most dist r1.1 r1.2 out ho) fun r2 h2 => symbols_fits l most lit dist k r2.1 r2.2 h2) fun _ => .cond (fun _ => .err) fun hr => symbols_fits l most lit dist k r1.2 _ ?_; rw [List.length_append, List.length_singleton]
    omega
theorem typed_fits (l : List Int) (most : Int) (k p : Nat) (out : List Int) (t : Int) : Fits most out Prod.snd (typedM l most k p out t) := by
  intro ho; unfold typedM; refine .cond (fun _ => stored_fits l most p out ho) fun _ => .cond (fun _ => symbols_fits l most _ _ k p out ho) fun _ => .cond (fun _ => ?_) fun _ => .err; rw [dynamicM_b]; exact Tells.bnd (T := fun _ => True) (fun _ _ => trivial) fun r1 _ => .cond (fun _ => .err) fun _ => .cond (fun _ => .err) fun _ => .cond (fun _ => symbols_fits l most _ _ k _ out ho) fun _ => .cond (fun _ => .err) fun _ => symbols_fits l most _ _ k _ out ho
theorem block_fits (l : List Int) (most : Int) (k p : Nat) (out : List Int) : Fits most out (fun r => r.2.2) (blockM l most k p out) := by
  intro ho; rw [blockM_b]; exact Tells.bnd (T := fun _ => True) (fun _ _ => trivial) fun r1 _ => Tells.bnd (T := fun _ => True) (fun _ _ => trivial) fun r2 _ => Tells.bnd (typed_fits l most k r2.2 out r2.1 ho) fun r3 h3 => .ok h3
abbrev In {α : Type} (l : List Int) (p : Nat) (pl : α → Nat) (r : Except Int α) : Prop := p ≤ 8 * l.length → Tells r fun x => pl x ≤ 8 * l.length
theorem bits_in (l : List Int) (p n : Nat) : Tells (bitsM l p n) fun x => x.2 ≤ 8 * l.length := fun x hx => by have := bitsM_ok hx; omega
theorem sym_in (l : List Int) (t : Option (List Int)) (p : Nat) : In l p Prod.snd (symM l t p) := by
  intro hp x hx
  cases t with
  | none => cases hx
  | some z => ?_
  unfold symM at hx; dsimp only at hx; split at hx
  · next h0 =>
    obtain ⟨q, h1, h2, h3⟩ := scan_place z l (8 * l.length) 15 p 0 (by omega) hp h0
    injection hx with hx
    subst hx; rw [h1]; dsimp only
    omega
  cases hx
theorem stored_in (l : List Int) (most : Int) (p : Nat) (out : List Int) : Tells (storedM l most p out) fun x => x.1 ≤ 8 * l.length := by
  rw [storedM_b]; refine Tells.bnd (T := fun _ => True) (fun _ _ => trivial) fun r1 _ => Tells.bnd (bits_in l r1.2 16) fun r2 h2 => .cond (fun _ => .err) fun _ => .cond (fun _ => .err) fun _ => .cond (fun _ => .err) fun _ => .ok ?_; dsimp only at *
  omega
theorem copied_in (l : List Int) (most : Int) (dist : Option (List Int)) (s : Int) (p : Nat) (out : List Int) : Tells (copiedM l most dist s p out) fun x => x.1 ≤ 8 * l.length := by
  rw [copiedM_b]
  cases lenP s with
  | none => exact .err
  | some kb => ?_
  refine Tells.bnd (T := fun _ => True) (fun _ _ => trivial) fun r1 _ => Tells.bnd (T := fun _ => True) (fun _ _ => trivial) fun r2 _ => ?_
  cases distP r2.1 with
  | none => exact .err
  | some db => exact Tells.bnd (bits_in l r2.2 db.1) fun r3 h3 => .cond (fun _ => .err) fun _ => .cond (fun _ => .err) fun _ => .ok h3
theorem symbols_in (l : List Int) (most : Int) (lit : List Int) (dist : Option (List Int)) : ∀ k p out, In l p Prod.fst (symbolsM l most lit dist k p out)
  | 0, p, out => fun _ => .err
  | k + 1, p, out => by
    intro hp; rw [symbolsM_b]; exact Tells.bnd (sym_in l (some lit) p hp) fun r1 h1 => .cond (fun _ => .ok h1) fun _ => .cond (fun _ => Tells.bnd (copied_in l most dist r1.1 r1.2 out) fun r2 h2 => symbols_in l most lit dist k r2.1 r2.2 h2) fun _ => .cond (fun _ => .err) fun _ => symbols_in l most lit dist k r1.2 _ h1
theorem codes_in (l : List Int) : ∀ d i p lens, In l p Prod.snd (codesM l d i p lens)
  | 0, i, p, lens => fun hp => by
    rw [codesM]; exact .cond (fun _ => .ok hp) fun _ => .err
  | d + 1, i, p, lens => fun hp => by
    rw [codesM_b]; exact Tells.bnd (bits_in l p 3) fun r1 h1 => codes_in l d (i + 1) r1.2 _ h1
theorem lengths_in (l z : List Int) (n : Nat) : ∀ k p out, In l p Prod.snd (lengthsM l z n k p out)
  | 0, p, out => fun _ => .err
  | k + 1, p, out => by
    intro hp; rw [lengthsM_b]; exact .cond (fun _ => Tells.bnd (sym_in l (some z) p hp) fun r1 h1 => Tells.bnd (bits_in l r1.2 (extraN r1.1)) fun r2 h2 => Tells.bnd (T := fun _ => True) (fun _ _ => trivial) fun o _ => lengths_in l z n k r2.2 o h2) fun _ => .ok hp
theorem header_in (l : List Int) (k p : Nat) : Tells (headerM l k p) fun x => x.2.2 ≤ 8 * l.length := by
  rw [headerM_b]; exact Tells.bnd (T := fun _ => True) (fun _ _ => trivial) fun r1 _ => Tells.bnd (T := fun _ => True) (fun _ _ => trivial) fun r2 _ => .cond (fun _ => .err) fun _ => Tells.bnd (bits_in l r2.2 4) fun r3 h3 => Tells.bnd (codes_in l _ 0 r3.2 _ h3) fun r4 h4 => Tells.bnd (lengths_in l r4.1 _ k r4.2 [] h4) fun r5 h5 => .ok h5
theorem typed_in (l : List Int) (most : Int) (k p : Nat) (out : List Int) (t : Int) : In l p Prod.fst (typedM l most k p out t) := by
  intro hp; unfold typedM; refine .cond (fun _ => stored_in l most p out) fun _ => .cond (fun _ => symbols_in l most _ _ k p out hp) fun _ => .cond (fun _ => ?_) fun _ => .err; rw [dynamicM_b]; exact Tells.bnd (header_in l k p) fun r1 h1 => .cond (fun _ => .err) fun _ => .cond (fun _ => .err) fun _ => .cond (fun _ => symbols_in l most _ _ k _ out h1) fun _ => .cond (fun _ => .err) fun _ => symbols_in l most _ _ k _ out h1
theorem block_in (l : List Int) (most : Int) (k p : Nat) (out : List Int) : Tells (blockM l most k p out) fun x => x.2.1 ≤ 8 * l.length := by
  rw [blockM_b]; exact Tells.bnd (T := fun _ => True) (fun _ _ => trivial) fun r1 _ => Tells.bnd (bits_in l r1.2 2) fun r2 h2 => Tells.bnd (typed_in l most k r2.2 out r2.1 h2) fun r3 h3 => .ok h3
theorem bits_bad (l : List Int) (p n : Nat) : Bad (bitsM l p n) := by
  unfold bitsM; exact .cond (fun _ => .ok _) fun _ => .err (by decide)
theorem sym_bad (l : List Int) (t : Option (List Int)) (p : Nat) : Bad (symM l t p) := by
  cases t with
  | none => exact .err (by decide)
  | some z => exact .cond (fun _ => .ok _) fun h => .err h
theorem stored_bad (l : List Int) (most : Int) (p : Nat) (out : List Int) : Bad (storedM l most p out) := by
  rw [storedM_b]; exact (bits_bad _ _ _).bnd fun r1 _ => (bits_bad _ _ _).bnd fun r2 _ => .cond (fun _ => .err (by decide)) fun _ => .cond (fun _ => .err (by decide)) fun _ => .cond (fun _ => .err (by decide)) fun _ => .ok _
theorem copied_bad (l : List Int) (most : Int) (dist : Option (List Int)) (s : Int) (p : Nat) (out : List Int) : Bad (copiedM l most dist s p out) := by
  rw [copiedM_b]
  cases lenP s with
  | none => exact .err (by decide)
  | some kb => ?_
  refine (bits_bad _ _ _).bnd fun r1 _ => (sym_bad _ _ _).bnd fun r2 _ => ?_
  cases distP r2.1 with
  | none => exact .err (by decide)
  | some db => exact (bits_bad _ _ _).bnd fun r3 _ => .cond (fun _ => .err (by decide)) fun _ => .cond (fun _ => .err (by decide)) fun _ => .ok _
theorem alike_self (l : List Int) : Alike l l l.length := ⟨rfl, Nat.le_refl _, Nat.le_refl _⟩
theorem symbols_bad (l : List Int) (most : Int) (lit : List Int) (dist : Option (List Int)) : ∀ k p out, p ≤ 8 * l.length → 8 * l.length < k + p → Bad (symbolsM l most lit dist k p out)
  | 0, p, out => fun _ _ => by omega
  | k + 1, p, out => by
    intro hp hk; rw [symbolsM_b]; refine (sym_bad _ _ _).bnd fun r1 h1 => ?_; have h2 := sym_more h1; have h3 := sym_in l (some lit) p hp r1 h1; refine .cond (fun _ => .ok _) fun _ => .cond (fun _ => (copied_bad l most dist r1.1 r1.2 out).bnd fun r2 h4 => ?_) fun _ => .cond (fun _ => .err (by decide)) fun _ => symbols_bad l most lit dist k r1.2 _ h3 (by omega); have h5 := (copied_cut (alike_self l) most dist r1.1 r1.2 out r2 h4).1; exact symbols_bad l most lit dist k r2.1 _ (copied_in l most dist r1.1 r1.2 out r2 h4) (by omega)
theorem codes_bad (l : List Int) : ∀ d i p lens, Bad (codesM l d i p lens)
  | 0, i, p, lens => by
    rw [codesM]; exact .cond (fun _ => .ok _) fun h => .err h
  | d + 1, i, p, lens => by
    rw [codesM_b]; exact (bits_bad _ _ _).bnd fun r1 _ => codes_bad l d (i + 1) r1.2 _
theorem takes_bad (out : List Int) (s x : Int) (n : Nat) : Bad (takeM out s x n) := by
  unfold takeM; exact .cond (fun _ => .err (by decide)) fun _ => .cond (fun _ => .err (by decide)) fun _ => .ok _
theorem lengths_bad (l z : List Int) (n : Nat) : ∀ k p out, p ≤ 8 * l.length → 8 * l.length < k + p → Bad (lengthsM l z n k p out)
  | 0, p, out => fun _ _ => by omega
  | k + 1, p, out => by
    intro hp hk; rw [lengthsM_b]; refine .cond (fun _ => (sym_bad _ _ _).bnd fun r1 h1 => (bits_bad _ _ _).bnd fun r2 h3 => (takes_bad _ _ _ _).bnd fun o _ => ?_) fun _ => .ok _; have h2 := sym_more h1; have h4 := bitsM_ok h3; exact lengths_bad l z n k r2.2 o (by omega) (by omega)
theorem headers_bad (l : List Int) (k p : Nat) (hk : 8 * l.length < k) : Bad (headerM l k p) := by
  rw [headerM_b]; refine (bits_bad _ _ _).bnd fun r1 _ => (bits_bad _ _ _).bnd fun r2 _ => .cond (fun _ => .err (by decide)) fun _ => (bits_bad _ _ _).bnd fun r3 h3 => (codes_bad _ _ _ _ _).bnd fun r4 h4 => (lengths_bad l r4.1 _ k r4.2 [] (codes_in l _ 0 r3.2 _ (bits_in l _ _ r3 h3) r4 h4) (by omega)).bnd fun r5 _ => .ok _
theorem typed_bad (l : List Int) (most : Int) (k p : Nat) (out : List Int) (t : Int) (hp : p ≤ 8 * l.length) (hk : 8 * l.length < k) : Bad (typedM l most k p out t) := by
  unfold typedM; refine .cond (fun _ => stored_bad l most p out) fun _ => .cond (fun _ => symbols_bad l most _ _ k p out hp (by omega)) fun _ => .cond (fun _ => ?_) fun _ => .err (by decide); rw [dynamicM_b]; exact (headers_bad l k p hk).bnd fun r1 h1 => .cond (fun _ => .err (by decide)) fun _ => .cond (fun h => .err h) fun _ => .cond (fun _ => symbols_bad l most _ _ k _ out (header_in l k p r1 h1) (by omega)) fun _ => .cond (fun h => .err h) fun _ => symbols_bad l most _ _ k _ out (header_in l k p r1 h1) (by omega)
theorem block_bad (l : List Int) (most : Int) (k p : Nat) (out : List Int) (hk : 8 * l.length < k) : Bad (blockM l most k p out) := by
  rw [blockM_b]; exact (bits_bad _ _ _).bnd fun r1 _ => (bits_bad _ _ _).bnd fun r2 h2 => (typed_bad l most k r2.2 out r2.1 (bits_in l _ _ r2 h2) hk).bnd fun r3 _ => .ok _
theorem decode_bad (l : List Int) (most : Int) (k : Nat) (hk : 8 * l.length < k) : ∀ d p out, p ≤ 8 * l.length → 8 * l.length < d + p → Bad (decodeM l most k d p out)
  | 0, p, out => fun _ _ => by omega
  | d + 1, p, out => by
    intro hp hd; rw [decodeM]; refine (block_bad l most k p out hk).bnd fun r1 h1 => ?_; have h2 := block_more h1; exact .cond (fun _ => .ok _) fun _ => decode_bad l most k hk d _ _ (block_in l most k p out r1 h1) (by omega)
def inflM (l : List Int) (most : Int) : Except Int (Nat × List Int) := if most < 0 ∨ most > 65536 then .error 2 else bnd (decodeM l most (8 * l.length + 1) (8 * l.length + 1) 0 []) fun r => .ok ((r.1 + 7) / 8, r.2)
theorem getD_mid {pre mid post : List Int} {i : Nat} (hi : i < mid.length) : (pre ++ mid ++ post).getD (pre.length + i) 0 = mid.getD i 0 := by
  rw [List.getD_eq_getElem?_getD, List.getD_eq_getElem?_getD, List.append_assoc, List.getElem?_append_right (by omega), Nat.add_sub_cancel_left, List.getElem?_append_left hi]
end Go.Proofs.YtgflkkjhckcipaaGreatDoor.Pr

