-- Texts by hand and by programs of this session, joined (wip/tool/merge.py).
import Derived.Shelf.Abstract
import Derived.Shelf.RegionOpen
import Derived.OwnWalkIn
import Derived.TacticsInMore
import Derived.LoopNIn
import Derived.LoopIn
import Derived.Test.YtgflkkjhckcipaaGreatDoorMID23
import Derived.Test.YtgflkkjhckcipaaGreatDoorMID14
import Derived.Test.YtgflkkjhckcipaaGreatDoorMID15
import Derived.Test.YtgflkkjhckcipaaGreatDoorProg
import Derived.Below
import Derived.Deep.Draws
import Derived.Deep.AppendLies
import Derived.Maps.AppendAt
import Derived.OwnWalk
import Derived.Laws.BytesArg
import Derived.Laws.MakeOwn
import Derived.Laws.OwnMore
import Derived.Deep.OwnRows
import Derived.Tactics
import Derived.Lib.ConvBytes
import Derived.Laws.Slices
import Derived.WalkKit
import Derived.KernelRfl
import Derived.RowKit3
import Derived.Deep.LoopGhost
import Derived.Deep.QuietTactic
import Derived.BigQuiet
import Derived.WideLaws
import Derived.Deep.DeepCutAuto
import Derived.Deep.CutBlock
import Derived.Deep.RegionHeld3
import Derived.Laws.Rows
import Derived.Lib.AppendStr
import Derived.ArgAppend
import Derived.Laws.IdiomCopy
import Derived.OrdersHeld
import Derived.Laws.BitsLemmas
import Derived.RowKit
import Derived.Lib.SliceRun
import Derived.Laws.BitsAllLaws
import Derived.Test.YtgflkkjhckcipaaGreatDoorMID1
import Derived.Test.YtgflkkjhckcipaaGreatDoorMID2
-- YtgflkkjhckcipaaGreatDoorIf54
set_option maxHeartbeats 16000000
set_option maxRecDepth 1000000
namespace Go.Proofs.YtgflkkjhckcipaaGreatDoor.Pr
open Go.RowKit Go.Shelf Go.Proofs.YtgflkkjhckcipaaGreatDoorW.PrintWords Go.Proofs.YtgflkkjhckcipaaGreatDoorW.PrintLast Go.Proofs.YtgflkkjhckcipaaGreatDoorW.PrintMore
set_option linter.unusedVariables false
set_option linter.unusedSimpArgs false
open Go.Proofs.YtgflkkjhckcipaaGreatDoor.Pv
theorem headerM_nn {l : List Int} {k p : Nat} {lit dist : List Int} {p' : Nat} (hp : p ≤ 8 * l.length) (h : headerM l k p = .ok (lit, dist, p')) : (∀ x ∈ lit, 0 ≤ x) ∧ ∀ x ∈ dist, 0 ≤ x := by
  rw [headerM_cnt] at h; split at h
  · cases h
  next cs p3 h1 =>
  have hc := cntM_ok (cs := []) (i := 0) (d := 3) hp (fun x hx => by cases hx) rfl rfl h1; split at h
  · cases h
  next z p4 h2 =>
  have ho := codesM_ok hc.1 h2; split at h
  · cases h
  next all p5 h3 =>
  have hn := lengthsM_nn (out := []) (okl_new ho.1) ho.2.2 (fun x hx => by cases hx) h3
  injection h with h
  injection h with h4 h5
  injection h5 with h5 h6
  subst h4 h5; exact ⟨fun x hx => hn x (List.mem_of_mem_take hx), fun x hx => hn x (List.mem_of_mem_drop hx)⟩
def dynHM (l : List Int) (k p : Nat) : Except Int (List Int × List Int × Nat) :=
  match headerM l k p with
  | .error e => .error e
  | .ok (lit, dist, p1) => if lit.getD 256 0 = 0 then .error 13 else if Hu.newS lit ≠ 0 then .error (Hu.newS lit) else if Hu.newS dist ≠ 0 ∧ dist.all (· == 0) = false then .error (Hu.newS dist) else .ok (lit, dist, p1)
theorem dynamicM_h (l : List Int) (most : Int) (k p : Nat) (out : List Int) : dynamicM l most k p out = match dynHM l k p with | .error e => .error e | .ok (lit, dist, p1) => symbolsM l most lit (rowC dist) k p1 out := by
  unfold dynamicM dynHM
  cases headerM l k p with
  | error e => rfl
  | ok r => ?_
  obtain ⟨lit, dist, p1⟩ := r; dsimp only
  split
  · rfl
  split
  · rfl
  unfold rowC
  by_cases ha : dist.all (· == 0) = true
  · rw [if_pos ha, if_neg (fun h => by rw [ha] at h; cases h.2)]; dsimp only; rw [if_pos ha]
  rw [if_neg ha]
  by_cases hz : Hu.newS dist ≠ 0
  · rw [if_pos hz, if_pos ⟨hz, by simpa using ha⟩]
  rw [if_neg hz, if_neg (fun h => hz h.1)]; dsimp only; rw [if_neg ha]
theorem rhread_ok {w : World} {A : Option Addr} {c : Nat} {l : List Int} (hr : RowOk w A c l) (p : Nat) (hp : p ≤ 8 * l.length) (k : Nat) (hk : 8 * l.length < k) {lit dist : List Int} {p' : Nat} (h : headerM l k p = .ok (lit, dist, p')) :
    Calls Tryz.prog 39 #[.agg #[.slice A l.length c, .int .i64 (NN l)], .int .i64 (p : Int)] w fun e w' => HToldZ w e w' (.ok (lit, dist, p')) := by
  rw [← h]; exact rhread_told hr p hp k hk
theorem rhread_bad {w : World} {A : Option Addr} {c : Nat} {l : List Int} (hr : RowOk w A c l) (p : Nat) (hp : p ≤ 8 * l.length) (k : Nat) (hk : 8 * l.length < k) {er : Int} (h : headerM l k p = .error er) :
    Calls Tryz.prog 39 #[.agg #[.slice A l.length c, .int .i64 (NN l)], .int .i64 (p : Int)] w fun e w' => HToldZ w e w' (.error er) := by
  rw [← h]; exact rhread_told hr p hp k hk
def ToldD (w0 w : World) (g : Nat) (A : Option Addr) (c : Nat) (l : List Int) (v : Value) (out : List Int) (most : Int) (e : Ending) (w' : World) : Except Int (List Int × List Int × Nat) → Prop
  | .ok (lit, dist, p') => ∃ A1 c1 A2 c2, e = .returned (.tuple #[.slice A1 lit.length c1, .slice A2 dist.length c2, .int .i64 0]) ∧ p' ≤ 8 * l.length ∧ RowAt w' A1 lit ∧ RowAt w' A2 dist ∧ RowC lit c1 ∧ Tbl lit ∧ RowC dist c2 ∧ StAt w0 w' g A c l (NN l) ((p' : Nat) : Int) v out most ∧ Moved w w' g v v
  | .error er => e = .returned (.tuple #[.slice none 0 0, .slice none 0 0, .int .i64 er]) ∧ Below w0.heap.size w w' ∧ er ≠ 0
theorem rnew_f (z : List Int) : ∃ k, valiseref04_New.f k z = some (Hu.newS z) := by
  obtain ⟨K, hK⟩ := refNew_eq z; exact ⟨K, hK K (Nat.le_refl _)⟩
section
attribute [local go_sem] Oper.semAt_some
theorem sdynamic_told {w0 : World} {A : Option Addr} {c : Nat} {l : List Int} (hr : RowOk w0 A c l) (w : World) (g p : Nat) (v : Value) (out : List Int) (most : Int) (H : StAt w0 w g A c l (NN l) (p : Int) v out most) (hp : p ≤ 8 * l.length) (hm0 : (out.length : Int) ≤ most) (hm1 : most ≤ 65536) (k : Nat) (hk : 8 * l.length < k) :
    Calls Tryz.prog 26 #[.pointer (some ⟨g, 0, none⟩)] w fun e w' => ToldD w0 w g A c l v out most e w' (dynHM l k p) := by
  have HR := Ak hr; have HX := Ak H; have AT := Ak H; have MV := Ak (Moved.of_below g v (Below.refl w.heap.size w)); have HP := Ak hp; have huR := Tryz.underlying48; have huB := Tryz.underlying43; have HK := Ak hk; obtain ⟨R, hR⟩ : ∃ R, dynHM l k p = R := ⟨_, rfl⟩; rw [hR]; have hRR := hR; clear hR; clear hr H hp hm0 hm1 hk; unfold dynHM at hRR; go_enter Tryz.func26, Tryz.ntmps26
  cases h1 : headerM l k p with
  | error er =>
    rw [h1] at hRR; have HRR := Ak hRR.symm; have H1 := Ak h1; clear hRR h1
    go_upto_region 1 with (fail)
    replace AT := Ak (AT.out.on (below_drew (Below.refl _ _))); replace MV := Ak (MV.out.trans (Moved.of_below g _ (below_drew (Below.refl _ _)))); refine sq 18 (S := fun w' => w'.cell? ⟨g, 0, none⟩ = some (.slice A l.length c) ∧ w'.cell? ⟨g, 1, none⟩ = some (.int .i64 (NN l)) ∧ w'.cell? ⟨g, 2, none⟩ = some (.int .i64 (p : Int))) (ds := []) ⟨(blk_cell AT.out.blk 0).trans rfl, (blk_cell AT.out.blk 1).trans rfl, (blk_cell AT.out.blk 2).trans rfl⟩ fun hHeld => ?_; generalize w.drew = wd at AT MV hHeld ⊢; refine pq 0 12 ?_; refine pq 1 13 ?_; refine pq 2 14 ?_; refine pq 4 16 ?_; refine pq 5 17 ?_; refine pq 6 18 ?_; refine tq 3 15 ?_ hHeld; refine tq 7 19 ?_ hHeld; refine oq 8 20 fun K hK => ?_; refine gq Tryz.func39 #[.agg #[.slice A l.length c, .int .i64 (NN l)], .int .i64 (p : Int)] ?_
    with_reducible refine (rhread_bad (HR.out.on AT.out.below) p HP.out k HK.out H1.out).mono ?_
    rintro e w5 ⟨rfl, hb, hne_⟩; refine ⟨_, rfl, ?_⟩; replace AT := Ak (AT.out.on hb); replace MV := Ak (MV.out.trans (Moved.of_below g _ hb)); have qe_ := eq_false hne_; have qeb_ := bne_iff_ne.2 hne_; have HNE := Ak hne_; clear hne_; clear hb; refine hK.out _ _ ⟨(blk_cell AT.out.blk 0).trans rfl, (blk_cell AT.out.blk 1).trans rfl, (blk_cell AT.out.blk 2).trans rfl⟩ (fun hHeld => ?_); clear hK K; refine nq 20 ?_; refine pq 9 11 ?_; refine pq 10 21 ?_; refine pq 11 22 ?_; refine pq 12 23 ?_; refine pq 13 24 ?_; refine pq 14 5 ?_; refine pq 15 6 ?_; refine pq 16 7 ?_; refine pq 17 8 ?_; refine dq ?_; clear hHeld; go_wp2; go_ret3; rw [HRR.out]; exact ⟨rfl, HX.out.between AT.out MV.out.size, HNE.out⟩
  | ok r => ?_
  obtain ⟨lit, dist, p1⟩ := r; have HH := Ak (headerM_ok HP.out h1); have HV := Ak (headerM_nn HP.out h1); rw [h1] at hRR; dsimp only at hRR; have H1 := Ak h1; have HRR := Ak hRR; clear h1 hRR
  go_upto_region 1 with (fail)
  replace AT := Ak (AT.out.on (below_drew (Below.refl _ _))); replace MV := Ak (MV.out.trans (Moved.of_below g _ (below_drew (Below.refl _ _)))); refine sq 18 (S := fun w' => w'.cell? ⟨g, 0, none⟩ = some (.slice A l.length c) ∧ w'.cell? ⟨g, 1, none⟩ = some (.int .i64 (NN l)) ∧ w'.cell? ⟨g, 2, none⟩ = some (.int .i64 (p : Int))) (ds := []) ⟨(blk_cell AT.out.blk 0).trans rfl, (blk_cell AT.out.blk 1).trans rfl, (blk_cell AT.out.blk 2).trans rfl⟩ fun hHeld => ?_; generalize w.drew = wd at AT MV hHeld ⊢; refine pq 0 12 ?_; refine pq 1 13 ?_; refine pq 2 14 ?_; refine pq 4 16 ?_; refine pq 5 17 ?_; refine pq 6 18 ?_; refine tq 3 15 ?_ hHeld; refine tq 7 19 ?_ hHeld; refine oq 8 20 fun K hK => ?_; refine gq Tryz.func39 #[.agg #[.slice A l.length c, .int .i64 (NN l)], .int .i64 (p : Int)] ?_
  with_reducible refine (rhread_ok (HR.out.on AT.out.below) p HP.out k HK.out H1.out).mono ?_
  rintro e w5 ⟨A1, c1, A2, c2, rfl, hl1, hl2, hca, hcb, hb⟩; refine ⟨_, rfl, ?_⟩; replace AT := Ak (AT.out.on hb); replace MV := Ak (MV.out.trans (Moved.of_below g _ hb)); have HL1 := Ak hl1; have HL2 := Ak hl2; have HCA := Ak hca; have HCB := Ak hcb; clear hl1 hl2 hca hcb; clear hb; refine hK.out _ _ ⟨(blk_cell AT.out.blk 0).trans rfl, (blk_cell AT.out.blk 1).trans rfl, (blk_cell AT.out.blk 2).trans rfl⟩ (fun hHeld => ?_); clear hK K; refine nq 20 ?_; refine pq 9 11 ?_; refine pq 10 21 ?_; refine pq 11 22 ?_; refine pq 12 23 ?_; refine pq 13 24 ?_; refine pq 14 5 ?_; refine pq 15 6 ?_; refine pq 16 7 ?_; refine pq 17 8 ?_; refine dq ?_; clear hHeld; have hc2 : w5.cell? ⟨g, 2, none⟩ = some (.int .i64 (p : Int)) := (blk_cell AT.out.blk 2).trans rfl; have hf2 := blk_frozen AT.out.blk 2
  go_upto_region 5 with (fail)
  clear hc2 hf2; replace MV := Ak (MV.out.set_ 2 (.int .i64 (p1 : Int))); replace HL1 := Ak (HL1.out.set_ AT.out.blk (by decide) (.int .i64 (p1 : Int)) (j := 2)); replace HL2 := Ak (HL2.out.set_ AT.out.blk (by decide) (.int .i64 (p1 : Int)) (j := 2)); replace AT := Ak (AT.out.setAt (p1 : Int)); generalize w5.setCell ⟨g, 2, none⟩ (.int .i64 (p1 : Int)) = w6 at AT MV HL1 HL2 ⊢; have hh := HH.out; obtain ⟨ad1, e1, hcell⟩ := Kd.at_int HL1.out.C 256 (by omega) (by omega); subst e1; obtain ⟨x, hx⟩ : ∃ x, x = lit.getD 256 0 := ⟨_, rfl⟩; replace hcell : w6.cell? ⟨ad1.block, ad1.off + 256, none⟩ = some (.int .i64 x) := (by rw [hx]; exact hcell); have q0 := eq_true (show (256 : Int) < (lit.length : Int) by omega); have q0n := eq_true (show 256 < lit.length by omega); have hRR := HRR.out; rw [← hx] at hRR; clear HRR hx hh
  by_cases hx0 : x = 0
  · rw [if_pos hx0] at hRR; have HRR := Ak hRR.symm; subst hx0; clear hRR; go_wp2; go_ret3; rw [HRR.out]; exact ⟨rfl, HX.out.between AT.out MV.out.size, by decide⟩
  rw [if_neg hx0] at hRR; have q1 := eq_false hx0; have q1b : (x == 0) = false := beq_eq_false_iff_ne.mpr hx0; clear hx0; obtain ⟨k1, hf1⟩ := rnew_f lit; obtain ⟨k2, hf2⟩ := rnew_f dist; have HF1 := Ak hf1; have HF2 := Ak hf2; obtain ⟨e1, he1⟩ : ∃ e1, e1 = Hu.newS lit := ⟨_, rfl⟩; obtain ⟨e2, he2⟩ : ∃ e2, e2 = Hu.newS dist := ⟨_, rfl⟩; rw [← he1, ← he2] at hRR; rw [← he1] at HF1; rw [← he2] at HF2; have HE1 := Ak he1; have HE2 := Ak he2; clear he1 he2 hf1 hf2
  by_cases hz : e1 ≠ 0
  · rw [if_pos hz] at hRR; have HRR := Ak hRR.symm; have HNE := Ak hz; have qe := eq_false hz; have qeb := bne_iff_ne.2 hz; clear hRR hz
    go_wp2_with (go_at_call 40; refine (valiseref04_New.calls k1 (some ad1) c1 lit e1 _ HL1.out.C HCA.out HF1.out).mono ?_; rintro e w7 ⟨rfl, hd_⟩; have hb := hd_.below; replace AT := Ak (AT.out.on hb); replace MV := Ak (MV.out.trans (Moved.of_below g _ hb)); replace HL1 := Ak (HL1.out.on hb); replace HL2 := Ak (HL2.out.on hb); clear hb hd_ HF1)
    go_ret3; rw [HRR.out]; exact ⟨rfl, HX.out.between AT.out MV.out.size, HNE.out⟩
  rw [if_neg hz] at hRR; obtain rfl : e1 = 0 := Decidable.not_not.1 hz; clear hz
  cases ha : dist.all (· == 0) with
  | true =>
    rw [ha] at hRR; rw [if_neg (fun h => by cases h.2)] at hRR; have HRR := Ak hRR.symm; have hnn := rnone_eq HV.out.2 (by have := HH.out; omega) (k := 1001) (by have := HH.out; omega); rw [ha] at hnn; have HNN := Ak hnn; have HA := Ak ha; clear hnn hRR ha
    by_cases hz : e2 = 0
    · have HE := Ak hz; subst hz
      go_wp2_with (first | (go_at_call 40; refine (valiseref04_New.calls k1 (some ad1) c1 lit 0 _ HL1.out.C HCA.out HF1.out).mono ?_; rintro e w7 ⟨rfl, hd_⟩; have hb := hd_.below; replace AT := Ak (AT.out.on hb); replace MV := Ak (MV.out.trans (Moved.of_below g _ hb)); replace HL1 := Ak (HL1.out.on hb); replace HL2 := Ak (HL2.out.on hb); clear hb hd_ HF1) | (go_at_call 40; refine (valiseref04_New.calls k2 A2 c2 dist 0 _ HL2.out.C HCB.out HF2.out).mono ?_; rintro e w7 ⟨rfl, hd_⟩; have hb := hd_.below; replace AT := Ak (AT.out.on hb); replace MV := Ak (MV.out.trans (Moved.of_below g _ hb)); replace HL1 := Ak (HL1.out.on hb); replace HL2 := Ak (HL2.out.on hb); clear hb hd_ HF2))
      go_ret3; rw [HRR.out]; have hh := HH.out; have ht1 := tbl_of_new HE1.out.symm; exact ⟨_, c1, A2, c2, rfl, hh.2.2.2.2.2, HL1.out, HL2.out, ⟨HV.out.1, by omega, HCA.out, fun _ => ht1⟩, ht1, ⟨HV.out.2, by omega, HCB.out, fun h => absurd (HA.out.symm.trans h) (by decide)⟩, AT.out, MV.out⟩
    have qe := eq_false hz; have qeb := bne_iff_ne.2 hz; clear hz
    go_wp2_with (first | (go_at_call 40; refine (valiseref04_New.calls k1 (some ad1) c1 lit 0 _ HL1.out.C HCA.out HF1.out).mono ?_; rintro e w7 ⟨rfl, hd_⟩; have hb := hd_.below; replace AT := Ak (AT.out.on hb); replace MV := Ak (MV.out.trans (Moved.of_below g _ hb)); replace HL1 := Ak (HL1.out.on hb); replace HL2 := Ak (HL2.out.on hb); clear hb hd_ HF1) | (go_at_call 40; refine (valiseref04_New.calls k2 A2 c2 dist e2 _ HL2.out.C HCB.out HF2.out).mono ?_; rintro e w7 ⟨rfl, hd_⟩; have hb := hd_.below; replace AT := Ak (AT.out.on hb); replace MV := Ak (MV.out.trans (Moved.of_below g _ hb)); replace HL1 := Ak (HL1.out.on hb); replace HL2 := Ak (HL2.out.on hb); clear hb hd_ HF2) | (go_at_call 41; refine (valiseref09_None.calls 1001 A2 c2 dist true _ HL2.out.C HCB.out HNN.out).mono ?_; rintro e w7 ⟨rfl, hd_⟩; have hb := hd_.below; replace AT := Ak (AT.out.on hb); replace MV := Ak (MV.out.trans (Moved.of_below g _ hb)); replace HL1 := Ak (HL1.out.on hb); replace HL2 := Ak (HL2.out.on hb); clear hb hd_ HNN))
    go_ret3; rw [HRR.out]; have hh := HH.out; have ht1 := tbl_of_new HE1.out.symm; exact ⟨_, c1, A2, c2, rfl, hh.2.2.2.2.2, HL1.out, HL2.out, ⟨HV.out.1, by omega, HCA.out, fun _ => ht1⟩, ht1, ⟨HV.out.2, by omega, HCB.out, fun h => absurd (HA.out.symm.trans h) (by decide)⟩, AT.out, MV.out⟩
  | false => ?_
  rw [ha] at hRR; have hnn := rnone_eq HV.out.2 (by have := HH.out; omega) (k := 1001) (by have := HH.out; omega); rw [ha] at hnn; have HNN := Ak hnn; clear hnn ha
  by_cases hz : e2 ≠ 0
  · rw [if_pos ⟨hz, rfl⟩] at hRR; have HRR := Ak hRR.symm; have HNE := Ak hz; have qe := eq_false hz; have qeb := bne_iff_ne.2 hz; clear hRR hz
    go_wp2_with (first | (go_at_call 40; refine (valiseref04_New.calls k1 (some ad1) c1 lit 0 _ HL1.out.C HCA.out HF1.out).mono ?_; rintro e w7 ⟨rfl, hd_⟩; have hb := hd_.below; replace AT := Ak (AT.out.on hb); replace MV := Ak (MV.out.trans (Moved.of_below g _ hb)); replace HL1 := Ak (HL1.out.on hb); replace HL2 := Ak (HL2.out.on hb); clear hb hd_ HF1) | (go_at_call 40; refine (valiseref04_New.calls k2 A2 c2 dist e2 _ HL2.out.C HCB.out HF2.out).mono ?_; rintro e w7 ⟨rfl, hd_⟩; have hb := hd_.below; replace AT := Ak (AT.out.on hb); replace MV := Ak (MV.out.trans (Moved.of_below g _ hb)); replace HL1 := Ak (HL1.out.on hb); replace HL2 := Ak (HL2.out.on hb); clear hb hd_ HF2) | (go_at_call 41; refine (valiseref09_None.calls 1001 A2 c2 dist false _ HL2.out.C HCB.out HNN.out).mono ?_; rintro e w7 ⟨rfl, hd_⟩; have hb := hd_.below; replace AT := Ak (AT.out.on hb); replace MV := Ak (MV.out.trans (Moved.of_below g _ hb)); replace HL1 := Ak (HL1.out.on hb); replace HL2 := Ak (HL2.out.on hb); clear hb hd_ HNN))
    go_ret3; rw [HRR.out]; exact ⟨rfl, HX.out.between AT.out MV.out.size, HNE.out⟩
  rw [if_neg (fun h => hz h.1)] at hRR; have HRR := Ak hRR.symm; obtain rfl : e2 = 0 := Decidable.not_not.1 hz; clear hRR hz
  go_wp2_with (first | (go_at_call 40; refine (valiseref04_New.calls k1 (some ad1) c1 lit 0 _ HL1.out.C HCA.out HF1.out).mono ?_; rintro e w7 ⟨rfl, hd_⟩; have hb := hd_.below; replace AT := Ak (AT.out.on hb); replace MV := Ak (MV.out.trans (Moved.of_below g _ hb)); replace HL1 := Ak (HL1.out.on hb); replace HL2 := Ak (HL2.out.on hb); clear hb hd_ HF1) | (go_at_call 40; refine (valiseref04_New.calls k2 A2 c2 dist 0 _ HL2.out.C HCB.out HF2.out).mono ?_; rintro e w7 ⟨rfl, hd_⟩; have hb := hd_.below; replace AT := Ak (AT.out.on hb); replace MV := Ak (MV.out.trans (Moved.of_below g _ hb)); replace HL1 := Ak (HL1.out.on hb); replace HL2 := Ak (HL2.out.on hb); clear hb hd_ HF2))
  go_ret3; rw [HRR.out]; have hh := HH.out; have ht1 := tbl_of_new HE1.out.symm; exact ⟨_, c1, A2, c2, rfl, hh.2.2.2.2.2, HL1.out, HL2.out, ⟨HV.out.1, by omega, HCA.out, fun _ => ht1⟩, ht1, ⟨HV.out.2, by omega, HCB.out, fun _ => tbl_of_new HE2.out.symm⟩, AT.out, MV.out⟩
end
-- YtgflkkjhckcipaaGreatDoorIf55
section
attribute [local go_sem] Oper.semAt_some
theorem RowAt.of_R {w : World} {base : Nat} {ok : Nat → Prop} {v : Value} {xs : List Int} (h : Kd.R (Kd.int .i64) 3 w base ok v xs) : ∃ A c, v = .slice A xs.length c ∧ RowAt w A xs ∧ xs.length ≤ c := by
  obtain ⟨A, c, rfl⟩ := Kd.R_slice h; exact ⟨A, c, rfl, ⟨(Kd.R_reads' h).2.2, fun ad e => Kd.R_typed h ad.block (by rw [e]; rfl)⟩, (Kd.R_reads' h).2.1⟩
theorem rfixed_rows (w : World) : Calls Tryz.prog 24 #[] w fun e w' => ∃ v0 v1, e = .returned (.tuple #[v0, v1]) ∧ Kd.R (Kd.int .i64) 3 w' w.heap.size (fun _ => True) v0 fixLit ∧ Kd.R (Kd.int .i64) 3 w' w.heap.size (fun _ => True) v1 fixDist ∧ Below w.heap.size w w' := by
  have HB := Ak (Below.refl w.heap.size w)
  go_enter Tryz.func24, Tryz.ntmps24
  go_upto_region 1 with (fail)
  replace HB := Ak (below_drew1 HB.out)
  refine start_ (n := 4) (S := fun w' => True) (ds := []) #[false, false, false, false] (by kernel_rfl) rfl rfl trivial (fun hHeld => ?_)
  generalize w.drew = wd at HB hHeld ⊢
  refine join_ (σ := Nat × Nat × Nat × Nat) 1 #[true, true, true, false] (fun s => [(6, .slice (some ⟨s.1, 0, none⟩) 288 s.2.1), (7, .slice (some ⟨s.2.2.1, 0, none⟩) 32 s.2.2.2), (2, .slice (some ⟨s.1, 0, none⟩) 288 s.2.1)]) (fun s w' => (Kd.R (Kd.int .i64) 3 w' w.heap.size (fun _ => True) (.slice (some ⟨s.1, 0, none⟩) 288 s.2.1) (List.replicate 288 0) ∧ Kd.R (Kd.int .i64) 3 w' w.heap.size (fun _ => True) (.slice (some ⟨s.2.2.1, 0, none⟩) 32 s.2.2.2) (List.replicate 32 0) ∧ s.1 ≠ s.2.2.1 ∧ w.heap.size ≤ s.1 ∧ w.heap.size ≤ s.2.2.1 ∧ Below w.heap.size w w') ∧ True) ?_ ?_
  rotate_left
  · intro hCont
    refine two_ (i := 0) (j := 1) (Ni := some 6) (Nj := some 7) #[true, false, false, false] #[false, true, false, false] rfl rfl rfl rfl (by kernel_rfl) (by decide) (by decide) (fun K hK => ?_) (fun K hK => ?_)
    · skip
      refine Kd.R_make_step (Kd.int .i64) (w0 := w) w.heap.size 3 (by rfl) (N := 6) rfl 68 (.const (.int .i64 288)) (.const (.int .i64 288)) rfl 288 rfl rfl Tryz.underlying68 (.int .i64 0) 8 Hu.info3 rfl (by decide) (by omega) (0 : Int) (ok := fun _ => True) (okp := fun _ => False) rfl (fun _ h => h.elim) trivial (by decide) (by decide) HB.out HB.out.size ?_
      intro v0_ w4 ho hb hg hat
      replace ho : Kd.R (Kd.int .i64) 3 w4 w.heap.size (fun _ => True) v0_ (List.replicate 288 0) := ho
      obtain ⟨gl, cl, ev, hgb, hgl_, cells_, hcells_⟩ := Kd.R_form ho (by rw [List.length_replicate]; decide)
      rw [List.length_replicate] at ev
      subst ev
      have n0 := Ak (hb)
      have n1 := Ak (ho)
      clear HB
      have HB := n0
      have HL := n1
      clear n0 n1
      clear hb hg hat hgb hgl_ hcells_ ho
      refine hK.out _ _ trivial (fun hHeld => ?_)
      clear hK K
      refine norm_ (a' := ?_) ?_ ?_
      rotate_left
      · show Act.put _ (some 6) _ = _
        simp only [Act.put, List.setIfInBounds_toArray, List.set_cons_zero, List.set_cons_succ, i64_w, i32_w, u8_w]
        rfl
      refine pure_ (i := 2) (N := some 2) (v := ?_) (a' := ?_) #[true, false, true, false] rfl rfl (by kernel_rfl) (fun _ _ _ h => h) (Or.inl ⟨by rfl, ?_⟩) ?_ ?_
      rotate_left
      · intro w'
        go_simp
        with_reducible rfl
      rotate_left
      · simp only [Act.put, List.setIfInBounds_toArray, List.set_cons_zero, List.set_cons_succ, i64_w, i32_w, u8_w]
        rfl
      refine one_ (i := 1) (N := some 7) #[true, true, true, false] rfl rfl (by kernel_rfl) (by decide) (fun K hK => ?_)
      refine Kd.R_make_step (Kd.int .i64) (w0 := w) w.heap.size 3 (by rfl) (N := 7) rfl 68 (.const (.int .i64 32)) (.const (.int .i64 32)) rfl 32 rfl rfl Tryz.underlying68 (.int .i64 0) 8 Hu.info3 rfl (by decide) (by omega) (0 : Int) (ok := fun _ => True) (okp := fun _ => False) rfl (fun _ h => h.elim) trivial (by decide) (by decide) HB.out HB.out.size ?_
      intro v1_ w5 ho hb hg hat
      replace ho : Kd.R (Kd.int .i64) 3 w5 w.heap.size (fun _ => True) v1_ (List.replicate 32 0) := ho
      obtain ⟨gd, cd, ev, hgb, hgl_, cells_, hcells_⟩ := Kd.R_form ho (by rw [List.length_replicate]; decide)
      rw [List.length_replicate] at ev
      subst ev
      have hne : gd ≠ gl := (by have hlt := Kd.R_lt HL.out gl rfl; obtain ⟨b, hb1, hb2⟩ := hat; simp [Value.ownBlock] at hb1; omega)
      have HNE := Ak (show gl ≠ gd from fun e => hne e.symm)
      clear hne
      have n0 := Ak (hb)
      have n1 := Ak (ho)
      have n2 := Ak (Kd.R_grown HL.out hg (fun k _ => by simp))
      clear HB HL
      have HB := n0
      have HD := n1
      have HL := n2
      clear n0 n1 n2
      clear hb hg hat hgb hgl_ hcells_ ho
      refine hK.out _ _ trivial (fun hHeld => ?_)
      clear hK K
      refine norm_ (a' := ?_) ?_ ?_
      rotate_left
      · show Act.put _ (some 7) _ = _
        simp only [Act.put, List.setIfInBounds_toArray, List.set_cons_zero, List.set_cons_succ, i64_w, i32_w, u8_w]
        rfl
      exact norm_ (by simp only [putAll, Act.put, List.setIfInBounds_toArray, List.set_cons_zero, List.set_cons_succ]) (hCont (gl, cl, gd, cd) _ ⟨⟨HL.out, HD.out, HNE.out, Kd.R_base HL.out gl rfl, Kd.R_base HD.out gd rfl, HB.out⟩, trivial⟩)
    · skip
      refine Kd.R_make_step (Kd.int .i64) (w0 := w) w.heap.size 3 (by rfl) (N := 7) rfl 68 (.const (.int .i64 32)) (.const (.int .i64 32)) rfl 32 rfl rfl Tryz.underlying68 (.int .i64 0) 8 Hu.info3 rfl (by decide) (by omega) (0 : Int) (ok := fun _ => True) (okp := fun _ => False) rfl (fun _ h => h.elim) trivial (by decide) (by decide) HB.out HB.out.size ?_
      intro v1_ w4 ho hb hg hat
      replace ho : Kd.R (Kd.int .i64) 3 w4 w.heap.size (fun _ => True) v1_ (List.replicate 32 0) := ho
      obtain ⟨gd, cd, ev, hgb, hgl_, cells_, hcells_⟩ := Kd.R_form ho (by rw [List.length_replicate]; decide)
      rw [List.length_replicate] at ev
      subst ev
      have n0 := Ak (hb)
      have n1 := Ak (ho)
      clear HB
      have HB := n0
      have HD := n1
      clear n0 n1
      clear hb hg hat hgb hgl_ hcells_ ho
      refine hK.out _ _ trivial (fun hHeld => ?_)
      clear hK K
      refine norm_ (a' := ?_) ?_ ?_
      rotate_left
      · show Act.put _ (some 7) _ = _
        simp only [Act.put, List.setIfInBounds_toArray, List.set_cons_zero, List.set_cons_succ, i64_w, i32_w, u8_w]
        rfl
      refine one_ (i := 0) (N := some 6) #[true, true, false, false] rfl rfl (by kernel_rfl) (by decide) (fun K hK => ?_)
      refine Kd.R_make_step (Kd.int .i64) (w0 := w) w.heap.size 3 (by rfl) (N := 6) rfl 68 (.const (.int .i64 288)) (.const (.int .i64 288)) rfl 288 rfl rfl Tryz.underlying68 (.int .i64 0) 8 Hu.info3 rfl (by decide) (by omega) (0 : Int) (ok := fun _ => True) (okp := fun _ => False) rfl (fun _ h => h.elim) trivial (by decide) (by decide) HB.out HB.out.size ?_
      intro v0_ w5 ho hb hg hat
      replace ho : Kd.R (Kd.int .i64) 3 w5 w.heap.size (fun _ => True) v0_ (List.replicate 288 0) := ho
      obtain ⟨gl, cl, ev, hgb, hgl_, cells_, hcells_⟩ := Kd.R_form ho (by rw [List.length_replicate]; decide)
      rw [List.length_replicate] at ev
      subst ev
      have hne : gl ≠ gd := (by have hlt := Kd.R_lt HD.out gd rfl; obtain ⟨b, hb1, hb2⟩ := hat; simp [Value.ownBlock] at hb1; omega)
      have HNE := Ak (show gl ≠ gd from hne)
      clear hne
      have n0 := Ak (hb)
      have n1 := Ak (ho)
      have n2 := Ak (Kd.R_grown HD.out hg (fun k _ => by simp))
      clear HB HD
      have HB := n0
      have HL := n1
      have HD := n2
      clear n0 n1 n2
      clear hb hg hat hgb hgl_ hcells_ ho
      refine hK.out _ _ trivial (fun hHeld => ?_)
      clear hK K
      refine norm_ (a' := ?_) ?_ ?_
      rotate_left
      · show Act.put _ (some 6) _ = _
        simp only [Act.put, List.setIfInBounds_toArray, List.set_cons_zero, List.set_cons_succ, i64_w, i32_w, u8_w]
        rfl
      refine pure_ (i := 2) (N := some 2) (v := ?_) (a' := ?_) #[true, true, true, false] rfl rfl (by kernel_rfl) (fun _ _ _ h => h) (Or.inl ⟨by rfl, ?_⟩) ?_ ?_
      rotate_left
      · intro w'
        go_simp
        with_reducible rfl
      rotate_left
      · simp only [Act.put, List.setIfInBounds_toArray, List.set_cons_zero, List.set_cons_succ, i64_w, i32_w, u8_w]
        rfl
      exact norm_ (by simp only [putAll, Act.put, List.setIfInBounds_toArray, List.set_cons_zero, List.set_cons_succ]) (hCont (gl, cl, gd, cd) _ ⟨⟨HL.out, HD.out, HNE.out, Kd.R_base HL.out gl rfl, Kd.R_base HD.out gd rfl, HB.out⟩, trivial⟩)
  rintro ⟨gl, cl, gd, cd⟩ w9 ⟨⟨hL, hD, hne, hgel, hged, hB⟩, hHeld⟩
  have HGE := Ak hgel
  have HGD := Ak hged
  have HL := Ak hL
  have HD := Ak hD
  have HNE := Ak hne
  have HB := Ak hB
  clear hL hD hne hB hgel hged
  refine norm_ (a' := ?_) ?_ ?_
  rotate_left
  · simp only [putAll, Act.put, List.setIfInBounds_toArray, List.set_cons_zero, List.set_cons_succ]
    rfl
  refine pure_ (i := 3) (N := some 3) (v := ?_) (a' := ?_) #[true, true, true, true] rfl rfl (by kernel_rfl) (fun _ _ _ h => h) (Or.inl ⟨by rfl, ?_⟩) ?_ ?_
  rotate_left
  · intro w'
    go_simp
    with_reducible rfl
  rotate_left
  · simp only [Act.put, List.setIfInBounds_toArray, List.set_cons_zero, List.set_cons_succ, i64_w, i32_w, u8_w]
    rfl
  refine done_ (by kernel_rfl) ?_
  clear hHeld
  replace HL := Ak (show Kd.R (Kd.int .i64) 3 w9 w.heap.size (fun _ => True) (.slice (some ⟨gl, 0, none⟩) 288 cl) (fixUp 0) from by rw [fixUp_zero]; exact HL.out)
  go_wp2
  go_loopw [4] (fun x10 w' => ∃ i : Nat, i ≤ 288 ∧ x10 = .int .i64 (i : Int) ∧ Aside0 (Kd.R (Kd.int .i64) 3 w' w.heap.size (fun _ => True) (.slice (some ⟨gl, 0, none⟩) 288 cl) (fixUp i)) ∧ Aside0 (Kd.R (Kd.int .i64) 3 w' w.heap.size (fun _ => True) (.slice (some ⟨gd, 0, none⟩) 32 cd) (List.replicate 32 0)) ∧ Aside0 (Below w.heap.size w w')) (fun x10 _ => 289 - (intOf x10).toNat)
  case atStart => exact ⟨0, by omega, rfl, HL, HD, HB⟩
  case round =>
    clear HL HD HB
    obtain ⟨i, hi, rfl, HL, HD, HB⟩ := hrel
    by_cases hlt : i < 288
    · have hcv := (Hu.row_at HL.out i hlt).1
      have hfv := (Hu.row_at HL.out i hlt).2
      have HI := Ak hlt
      have q10 := eq_true (show (i : Int) < 288 by omega)
      have q11 := eq_true hlt
      have q12 := eq_true (show (0 : Int) ≤ (i : Int) by omega)
      by_cases h1 : i < 144
      · have q0 := eq_true (show (i : Int) < 144 by omega)
        have q0n := eq_true h1
        have HFX := Ak (show fixL i = 8 from by unfold fixL; rw [if_neg (by omega), if_neg (by omega)])
        clear hlt hi
        go_wp2
        go_roundw
        case rel => exact ⟨i + 1, HI.out, (by first | exact val_next _ (by have := HI.out; omega) | (congr 1)), ⟨by rw [← fixUp_set HI.out, HFX.out]; exact (Hu.row_put HL.out i 8).1⟩, ⟨R_apart HD.out HNE.out _ _⟩, ⟨HB.out.setCell (p := ⟨gl, i, none⟩) HGE.out _⟩⟩
        case measure => have := HI.out; first | (rw [nat_next _ (by omega)]; simp only [intOf, Int.toNat_natCast]; omega) | (simp only [intOf]; omega)
      have q0 := eq_false (show ¬ (i : Int) < 144 by omega)
      have q0n := eq_false h1
      by_cases h2 : 280 ≤ i
      · have q1 := eq_true (show (280 : Int) ≤ (i : Int) by omega)
        have q1n := eq_true h2
        have HFX := Ak (show fixL i = 8 from by unfold fixL; rw [if_neg (by omega), if_neg (by omega)])
        clear hlt hi
        go_wp2
        go_roundw
        case rel => exact ⟨i + 1, HI.out, (by first | exact val_next _ (by have := HI.out; omega) | (congr 1)), ⟨by rw [← fixUp_set HI.out, HFX.out]; exact (Hu.row_put HL.out i 8).1⟩, ⟨R_apart HD.out HNE.out _ _⟩, ⟨HB.out.setCell (p := ⟨gl, i, none⟩) HGE.out _⟩⟩
        case measure => have := HI.out; first | (rw [nat_next _ (by omega)]; simp only [intOf, Int.toNat_natCast]; omega) | (simp only [intOf]; omega)
      have q1 := eq_false (show ¬ (280 : Int) ≤ (i : Int) by omega)
      have q1n := eq_false h2
      by_cases h3 : i < 256
      · have q2 := eq_true (show (i : Int) < 256 by omega)
        have q2n := eq_true h3
        have HFX := Ak (show fixL i = 9 from by unfold fixL; rw [if_pos (by omega)])
        clear hlt hi
        go_wp2
        go_roundw
        case rel => exact ⟨i + 1, HI.out, (by first | exact val_next _ (by have := HI.out; omega) | (congr 1)), ⟨by rw [← fixUp_set HI.out, HFX.out]; exact (Hu.row_put HL.out i 9).1⟩, ⟨R_apart HD.out HNE.out _ _⟩, ⟨HB.out.setCell (p := ⟨gl, i, none⟩) HGE.out _⟩⟩
        case measure => have := HI.out; first | (rw [nat_next _ (by omega)]; simp only [intOf, Int.toNat_natCast]; omega) | (simp only [intOf]; omega)
      have q2 := eq_false (show ¬ (i : Int) < 256 by omega)
      have q2n := eq_false h3
      have HFX := Ak (show fixL i = 7 from by unfold fixL; rw [if_neg (by omega), if_pos (by omega)])
      clear hlt hi
      go_wp2
      go_roundw
      case rel => exact ⟨i + 1, HI.out, (by first | exact val_next _ (by have := HI.out; omega) | (congr 1)), ⟨by rw [← fixUp_set HI.out, HFX.out]; exact (Hu.row_put HL.out i 7).1⟩, ⟨R_apart HD.out HNE.out _ _⟩, ⟨HB.out.setCell (p := ⟨gl, i, none⟩) HGE.out _⟩⟩
      case measure => have := HI.out; first | (rw [nat_next _ (by omega)]; simp only [intOf, Int.toNat_natCast]; omega) | (simp only [intOf]; omega)
    · obtain rfl : i = 288 := by omega
      replace HL := Ak (show Kd.R (Kd.int .i64) 3 wr w.heap.size (fun _ => True) (.slice (some ⟨gl, 0, none⟩) 288 cl) fixLit from by rw [← fixUp_all]; exact HL.out)
      clear hi hlt
      replace HD := Ak (show Kd.R (Kd.int .i64) 3 wr w.heap.size (fun _ => True) (.slice (some ⟨gd, 0, none⟩) 32 cd) (fixDistUp 0) from HD.out)
      go_wp2
      go_loopw [5] (fun x39 w' => ∃ i : Nat, i ≤ 32 ∧ x39 = .int .i64 (i : Int) ∧ Aside0 (Kd.R (Kd.int .i64) 3 w' w.heap.size (fun _ => True) (.slice (some ⟨gl, 0, none⟩) 288 cl) fixLit) ∧ Aside0 (Kd.R (Kd.int .i64) 3 w' w.heap.size (fun _ => True) (.slice (some ⟨gd, 0, none⟩) 32 cd) (fixDistUp i)) ∧ Aside0 (Below w.heap.size w w')) (fun x39 _ => 33 - (intOf x39).toNat)
      case atStart => exact ⟨0, by omega, rfl, HL, HD, HB⟩
      case round =>
        clear HL HD HB
        obtain ⟨i, hi, rfl, HL, HD, HB⟩ := hrel
        by_cases hlt : i < 32
        · have hcv := (Hu.row_at HD.out i hlt).1
          have hfv := (Hu.row_at HD.out i hlt).2
          have HI := Ak hlt
          have q10 := eq_true (show (i : Int) < 32 by omega)
          have q11 := eq_true hlt
          have q12 := eq_true (show (0 : Int) ≤ (i : Int) by omega)
          clear hlt hi
          go_wp2
          go_roundw
          case rel => exact ⟨i + 1, HI.out, (by first | exact val_next _ (by have := HI.out; omega) | (congr 1)), ⟨R_apart HL.out HNE.out.symm _ _⟩, ⟨by rw [← fixDist_set HI.out]; exact (Hu.row_put HD.out i 5).1⟩, ⟨HB.out.setCell (p := ⟨gd, i, none⟩) HGD.out _⟩⟩
          case measure => have := HI.out; first | (rw [nat_next _ (by omega)]; simp only [intOf, Int.toNat_natCast]; omega) | (simp only [intOf]; omega)
        · obtain rfl : i = 32 := by omega
          go_wp2
          go_ret2
          exact ⟨_, _, rfl, HL.out, by rw [← fixDist_all]; exact HD.out, HB.out⟩
theorem rfixed_told (w : World) : Calls Tryz.prog 24 #[] w fun e w' => ∃ A1 c1 A2 c2, e = .returned (.tuple #[.slice A1 fixLit.length c1, .slice A2 fixDist.length c2]) ∧ RowAt w' A1 fixLit ∧ RowAt w' A2 fixDist ∧ RowC fixLit c1 ∧ RowC fixDist c2 ∧ Below w.heap.size w w' := by
  refine (rfixed_rows w).mono ?_; rintro e w' ⟨v0, v1, rfl, h0, h1, hb⟩; obtain ⟨A1, c1, rfl, r1, l1⟩ := RowAt.of_R h0; obtain ⟨A2, c2, rfl, r2, l2⟩ := RowAt.of_R h1; exact ⟨A1, c1, A2, c2, rfl, r1, r2, ⟨by decide +kernel, by decide +kernel, l1, fun _ => tbl_of_new fixLit_new⟩, ⟨by decide +kernel, by decide +kernel, l2, fun _ => tbl_of_new fixDist_new⟩, hb⟩
def ToldBS (w0 w : World) (g : Nat) (A : Option Addr) (c : Nat) (l : List Int) (v : Value) (most : Int) (e : Ending) (w' : World) : Except Int (Bool × Nat × List Int) → Prop
  | .ok (b, p', out') => e = .returned (.tuple #[.bool b, .int .i64 0]) ∧ p' ≤ 8 * l.length ∧ ∃ v', StAt w0 w' g A c l (NN l) ((p' : Nat) : Int) v' out' most ∧ Moved w w' g v v'
  | .error er => ∃ b, e = .returned (.tuple #[.bool b, .int .i64 er]) ∧ Below w0.heap.size w w' ∧ er ≠ 0
theorem sblock_told {w0 : World} {A : Option Addr} {c : Nat} {l : List Int} (hr : RowOk w0 A c l) (w : World) (g p : Nat) (v : Value) (out : List Int) (most : Int) (H : StAt w0 w g A c l (NN l) (p : Int) v out most) (hp : p ≤ 8 * l.length) (hm0 : (out.length : Int) ≤ most) (hm1 : most ≤ 65536) (k : Nat) (hk : 8 * l.length < k) :
    Calls Tryz.prog 12 #[.pointer (some ⟨g, 0, none⟩)] w fun e w' => ToldBS w0 w g A c l v most e w' (blockM l most k p out) := by
  have HR := Ak hr; have HX := Ak H; have AT := Ak H; have MV := Ak (Moved.of_below g v (Below.refl w.heap.size w)); have HP := Ak hp; have huR := Tryz.underlying48; have huB := Tryz.underlying43; have HM0 := Ak hm0; have HM1 := Ak hm1; have HK := Ak hk; obtain ⟨R, hR⟩ : ∃ R, blockM l most k p out = R := ⟨_, rfl⟩; rw [hR]; have hRR := hR; clear hR; clear hr H hp hm0 hm1 hk; unfold blockM at hRR; go_enter Tryz.func12, Tryz.ntmps12
  cases h1 : bitsM l p 1 with
  | error er =>
    rw [h1] at hRR; have HRR := Ak hRR.symm; have H1 := Ak h1; clear hRR h1
    go_wp2_with (go_at_call 22; have hcc := sget_told' HR.out _ g _ 1 1 rfl v out most AT.out HP.out (by decide); rw [H1.out] at hcc; refine hcc.mono ?_; clear hcc; rintro e w' ⟨rfl, hb, hne_⟩; have qe_ := eq_false hne_; have qeb_ := bne_iff_ne.2 hne_; have HNE := Ak hne_; clear hne_)
    go_ret2; rw [HRR.out]; exact ⟨_, rfl, (HX.out.between AT.out MV.out.size).trans hb, HNE.out⟩
  | ok r1 => ?_
  obtain ⟨b, p1⟩ := r1; rw [h1] at hRR; dsimp only at hRR; have H1 := Ak h1; clear h1
  go_upto_region 4 with (go_at_call 22; have hcc := sget_told' HR.out _ g _ 1 1 rfl v out most AT.out HP.out (by decide); rw [H1.out] at hcc; refine hcc.mono ?_; clear hcc; rintro e w' ⟨rfl, hq_, hat_, hm_⟩; replace AT := Ak hat_; replace MV := Ak (MV.out.trans hm_); replace HP := Ak hq_; clear hat_ hm_ hq_; clear H1)
  cases h2 : bitsM l p1 2 with
  | error er =>
    rw [h2] at hRR; have HRR := Ak hRR.symm; have H2 := Ak h2; clear hRR h2
    go_wp2_with (go_at_call 22; have hcc := sget_told' HR.out _ g _ 2 2 rfl v out most AT.out HP.out (by decide); rw [H2.out] at hcc; refine hcc.mono ?_; clear hcc; rintro e w' ⟨rfl, hb, hne_⟩; have qe_ := eq_false hne_; have qeb_ := bne_iff_ne.2 hne_; have HNE := Ak hne_; clear hne_)
    go_ret2; rw [HRR.out]; exact ⟨_, rfl, (HX.out.between AT.out MV.out.size).trans hb, HNE.out⟩
  | ok r2 => ?_
  obtain ⟨t, p2⟩ := r2; rw [h2] at hRR; dsimp only at hRR; have H2 := Ak h2; clear h2
  go_upto_region 7 with (go_at_call 22; have hcc := sget_told' HR.out _ g _ 2 2 rfl v out most AT.out HP.out (by decide); rw [H2.out] at hcc; refine hcc.mono ?_; clear hcc; rintro e w' ⟨rfl, hq_, hat_, hm_⟩; replace AT := Ak hat_; replace MV := Ak (MV.out.trans hm_); replace HP := Ak hq_; clear hat_ hm_ hq_; clear H2)
  by_cases ht0 : t = 0
  · subst ht0
    cases hs : typedM l most k p2 out 0 with
    | error er =>
      rw [hs] at hRR; dsimp only at hRR; have HRR := Ak hRR.symm; have HS := Ak (show storedM l most p2 out = _ from hs); clear hRR hs
      go_wp2_with (go_at_call 23; have hcc := sstored_told HR.out _ g p2 v out most AT.out HP.out HM0.out HM1.out; rw [HS.out] at hcc; refine hcc.mono ?_; clear hcc; rintro e w' ⟨rfl, hb, hne_⟩; have qe_ := eq_false hne_; have qeb_ := bne_iff_ne.2 hne_; have HNE := Ak hne_; clear hne_)
      go_ret2; rw [HRR.out]; exact ⟨_, rfl, (HX.out.between AT.out MV.out.size).trans hb, HNE.out⟩
    | ok r3 => ?_
    obtain ⟨p3, ys⟩ := r3; rw [hs] at hRR; dsimp only at hRR; have HRR := Ak hRR.symm; have HS := Ak (show storedM l most p2 out = _ from hs); clear hRR hs
    go_wp2_with (go_at_call 23; have hcc := sstored_told HR.out _ g p2 v out most AT.out HP.out HM0.out HM1.out; rw [HS.out] at hcc; refine hcc.mono ?_; clear hcc; rintro e w' ⟨rfl, hq, v', hat, hm⟩)
    go_ret2; rw [HRR.out]; exact ⟨rfl, hq, v', hat, MV.out.trans hm⟩
  have q0 := eq_false ht0; have qb0 : (t == 0) = false := beq_eq_false_iff_ne.mpr ht0
  by_cases ht1 : t = 1
  · subst ht1
    cases hs : typedM l most k p2 out 1 with
    | error er =>
      rw [hs] at hRR; dsimp only at hRR; have HRR := Ak hRR.symm; have HS := Ak (show symbolsM l most fixLit (rowC fixDist) k p2 out = _ from hs); clear hRR hs
      go_wp2_with (first | (go_at_call 24; refine (rfixed_told _).mono ?_; rintro e w3 ⟨Al, cl, Ad, cd, rfl, hl_, hd_, hlc, hdc, hb⟩; replace AT := Ak (AT.out.on hb); replace MV := Ak (MV.out.trans (Moved.of_below g _ hb)); clear hb; have HL := Ak hl_; have HD := Ak hd_; have HLC := Ak hlc; have HDC := Ak hdc; clear hl_ hd_ hlc hdc) | (go_at_call 25; have hcc := ssymbols_told HR.out _ g p2 v out most AT.out HP.out HM0.out HM1.out Al cl fixLit HL.out HLC.out (tbl_of_new fixLit_new) Ad cd fixDist HD.out HDC.out k (by have := HK.out; omega); rw [HS.out] at hcc; refine hcc.mono ?_; clear hcc; rintro e w' ⟨rfl, hb, hne_⟩; have qe_ := eq_false hne_; have qeb_ := bne_iff_ne.2 hne_; have HNE := Ak hne_; clear hne_))
      go_ret2; rw [HRR.out]; exact ⟨_, rfl, (HX.out.between AT.out MV.out.size).trans hb, HNE.out⟩
    | ok r3 => ?_
    obtain ⟨p3, ys⟩ := r3; rw [hs] at hRR; dsimp only at hRR; have HRR := Ak hRR.symm; have HS := Ak (show symbolsM l most fixLit (rowC fixDist) k p2 out = _ from hs); clear hRR hs
    go_wp2_with (first | (go_at_call 24; refine (rfixed_told _).mono ?_; rintro e w3 ⟨Al, cl, Ad, cd, rfl, hl_, hd_, hlc, hdc, hb⟩; replace AT := Ak (AT.out.on hb); replace MV := Ak (MV.out.trans (Moved.of_below g _ hb)); clear hb; have HL := Ak hl_; have HD := Ak hd_; have HLC := Ak hlc; have HDC := Ak hdc; clear hl_ hd_ hlc hdc) | (go_at_call 25; have hcc := ssymbols_told HR.out _ g p2 v out most AT.out HP.out HM0.out HM1.out Al cl fixLit HL.out HLC.out (tbl_of_new fixLit_new) Ad cd fixDist HD.out HDC.out k (by have := HK.out; omega); rw [HS.out] at hcc; refine hcc.mono ?_; clear hcc; rintro e w' ⟨rfl, hq, v', hat, hm⟩))
    go_ret2; rw [HRR.out]; exact ⟨rfl, hq, v', hat, MV.out.trans hm⟩
  have q1 := eq_false ht1; have qb1 : (t == 1) = false := beq_eq_false_iff_ne.mpr ht1
  by_cases ht2 : t = 2
  rotate_left
  · have q2 := eq_false ht2; have qb2 : (t == 2) = false := beq_eq_false_iff_ne.mpr ht2; rw [show typedM l most k p2 out t = .error 13 from by unfold typedM; rw [if_neg ht0, if_neg ht1, if_neg ht2]] at hRR; have HRR := Ak hRR.symm; clear hRR ht0 ht1 ht2; go_wp2; go_ret2; rw [HRR.out]; exact ⟨_, rfl, HX.out.between AT.out MV.out.size, by decide⟩
  subst ht2; rw [show typedM l most k p2 out 2 = dynamicM l most k p2 out from rfl, dynamicM_h] at hRR
  cases hd : dynHM l k p2 with
  | error er =>
    rw [hd] at hRR; dsimp only at hRR; have HRR := Ak hRR.symm; have HD0 := Ak hd; clear hRR hd
    go_wp2_with (go_at_call 26; have hcc := sdynamic_told HR.out _ g p2 v out most AT.out HP.out HM0.out HM1.out k HK.out; rw [HD0.out] at hcc; refine hcc.mono ?_; clear hcc; rintro e w3 ⟨rfl, hb, hne_⟩; have qe2_ := beq_eq_false_iff_ne.2 hne_; have qe_ := eq_false hne_; have qeb_ := bne_iff_ne.2 hne_; have HNE := Ak hne_; clear hne_)
    go_ret2; rw [HRR.out]; exact ⟨_, rfl, (HX.out.between AT.out MV.out.size).trans hb, HNE.out⟩
  | ok r => ?_
  obtain ⟨lit, dist, p3⟩ := r; rw [hd] at hRR; dsimp only at hRR; have HD0 := Ak hd; clear hd
  cases hs : symbolsM l most lit (rowC dist) k p3 out with
  | error er =>
    rw [hs] at hRR; dsimp only at hRR; have HRR := Ak hRR.symm; have HS := Ak hs; clear hRR hs
    go_wp2_with (first | (go_at_call 26; have hcc := sdynamic_told HR.out _ g p2 v out most AT.out HP.out HM0.out HM1.out k HK.out; rw [HD0.out] at hcc; refine hcc.mono ?_; clear hcc; rintro e w3 ⟨Al, cl, Ad, cd, rfl, hq_, hl_, hd_, hlc, hlt_, hdc, hat_, hm_⟩; have HL := Ak hl_; have HD := Ak hd_; have HLC := Ak hlc; have HDC := Ak hdc; have HLT := Ak hlt_; replace AT := Ak hat_; replace MV := Ak (MV.out.trans hm_); replace HP := Ak hq_; clear hat_ hm_ hq_; clear hl_ hd_ hlc hdc hlt_) | (go_at_call 25; have hcc := ssymbols_told HR.out _ g _ v out most AT.out HP.out HM0.out HM1.out Al cl lit HL.out HLC.out HLT.out Ad cd dist HD.out HDC.out k (by have := HK.out; omega); rw [HS.out] at hcc; refine hcc.mono ?_; clear hcc; rintro e w' ⟨rfl, hb, hne_⟩; have qe_ := eq_false hne_; have qeb_ := bne_iff_ne.2 hne_; have HNE := Ak hne_; clear hne_))
    go_ret2; rw [HRR.out]; exact ⟨_, rfl, (HX.out.between AT.out MV.out.size).trans hb, HNE.out⟩
  | ok r3 => ?_
  obtain ⟨p4, ys⟩ := r3; rw [hs] at hRR; dsimp only at hRR; have HRR := Ak hRR.symm; have HS := Ak hs; clear hRR hs
  go_wp2_with (first | (go_at_call 26; have hcc := sdynamic_told HR.out _ g p2 v out most AT.out HP.out HM0.out HM1.out k HK.out; rw [HD0.out] at hcc; refine hcc.mono ?_; clear hcc; rintro e w3 ⟨Al, cl, Ad, cd, rfl, hq_, hl_, hd_, hlc, hlt_, hdc, hat_, hm_⟩; have HL := Ak hl_; have HD := Ak hd_; have HLC := Ak hlc; have HDC := Ak hdc; have HLT := Ak hlt_; replace AT := Ak hat_; replace MV := Ak (MV.out.trans hm_); replace HP := Ak hq_; clear hat_ hm_ hq_; clear hl_ hd_ hlc hdc hlt_) | (go_at_call 25; have hcc := ssymbols_told HR.out _ g _ v out most AT.out HP.out HM0.out HM1.out Al cl lit HL.out HLC.out HLT.out Ad cd dist HD.out HDC.out k (by have := HK.out; omega); rw [HS.out] at hcc; refine hcc.mono ?_; clear hcc; rintro e w' ⟨rfl, hq, v', hat, hm⟩))
  go_ret2; rw [HRR.out]; exact ⟨rfl, hq, v', hat, MV.out.trans hm⟩
end
-- YtgflkkjhckcipaaGreatDoorIf56
section
attribute [local go_sem] Oper.semAt_some
theorem rdecode_told {w : World} {A : Option Addr} {c : Nat} {l : List Int} (hr : RowOk w A c l) (most : Int) :
    Calls Tryz.prog 7 #[.slice A l.length c, .int .i64 most] w fun e w' => DTold w e w' (inflM l most) := by
  obtain ⟨R, hR⟩ : ∃ R, inflM l most = R := ⟨_, rfl⟩; rw [hR]; unfold inflM at hR
  by_cases h0 : most < 0
  · rw [if_pos (.inl h0)] at hR; have q0 := eq_true h0; have q0b := decide_eq_true h0; have HRR := Ak hR.symm; clear hR; go_enter Tryz.func7, Tryz.ntmps7; go_wp2; go_ret3; rw [HRR.out]; exact ⟨rfl, Below.refl _ _, by decide⟩
  have q0 := eq_false h0; have q0b := decide_eq_false h0
  by_cases h1 : most > 65536
  · rw [if_pos (.inr h1)] at hR; have q1 := eq_true (show (65536 : Int) < most from h1); have q1b := decide_eq_true (show (65536 : Int) < most from h1); have HRR := Ak hR.symm; clear hR; go_enter Tryz.func7, Tryz.ntmps7; go_wp2; go_ret3; rw [HRR.out]; exact ⟨rfl, Below.refl _ _, by decide⟩
  rw [if_neg (by omega)] at hR; have q1 := eq_false (show ¬ (65536 : Int) < most from h1); have q1b := decide_eq_false (show ¬ (65536 : Int) < most from h1); obtain ⟨R0, hR0⟩ : ∃ R0, decodeM l most (8 * l.length + 1) (8 * l.length + 1) 0 [] = R0 := ⟨_, rfl⟩; rw [hR0] at hR; have HRR := Ak hR; have HR0 := Ak hR0; have HR := Ak hr; have HM0 := Ak (show 0 ≤ most by omega); have HM1 := Ak (show most ≤ 65536 by omega); have HBD := Ak (show ∀ er, R0 = .error er → er ≠ 0 from hR0 ▸ decode_bad l most _ (Nat.lt_succ_self _) _ 0 [] (Nat.zero_le _) (by omega)); have huR := Tryz.underlying48; have huB := Tryz.underlying43; have hlen := hr.len; have hw8 : wrap64 (8 * (l.length : Int)) = NN l := (by rw [wrap64_id (by omega) (by omega)]; unfold NN; omega); clear hR hR0 hr h0 h1 hlen; go_enter Tryz.func7, Tryz.ntmps7
  go_wp2_with ((with_reducible refine gate_dst (N := 23) rfl ?_); refine box_event ?hg (N := 23) ?hd (cs := #[.slice A l.length c, .int .i64 (NN l), .int .i64 0, .slice none 0 0, .int .i64 most]) (t := 48) ?hr ?_; (case hd => rfl); (case hg => rfl); (case hr => (go_simp; done)); intro g hg w9 hbox hb; have AT := Ak (show StAt w w9 g A c l (NN l) ((0 : Nat) : Int) (.slice none 0 0) [] most from ⟨hb, by rw [hg]; exact Nat.le_refl _, hbox, Kd.R_nil _ _ _ _ _⟩); clear hg hbox hb)
  go_loopg [] (8 * l.length + 1) (fun kq w' => ∃ (p' : Nat) (ys : List Int) (v1 : Value), Aside0 (StAt w w' g A c l (NN l) (p' : Int) v1 ys most) ∧ Aside0 (p' ≤ 8 * l.length) ∧ Aside0 ((ys.length : Int) ≤ most) ∧ Aside0 (decodeM l most (8 * l.length + 1) kq p' ys = R0) ∧ Aside0 (8 * l.length < kq + p'))
  case atStart => exact ⟨0, [], .slice none 0 0, AT, ⟨Nat.zero_le _⟩, ⟨by simpa using HM0.out⟩, HR0, ⟨by omega⟩⟩
  case round =>
    clear AT HR0; obtain ⟨p0, ys, v1, AT, HP, HM0_, HR0, HK⟩ := hrel; obtain ⟨A1, c1, rfl⟩ := Kd.R_slice AT.out.row; have hR0 := HR0.out; clear HR0
    cases gk with
    | zero => exact absurd HK.out (by have := HP.out; omega)
    | succ k1 => ?_
    rw [decodeM] at hR0
    cases h1 : blockM l most (8 * l.length + 1) p0 ys with
    | error er =>
      rw [h1] at hR0; obtain rfl : R0 = .error er := hR0.symm; have HRR_ := Ak (show R = .error er from HRR.out.symm); clear HRR; have HRR := HRR_; have H1 := Ak h1; clear h1 hR0 HRR_
      go_wp2_with (go_at_call 12; have hcc := sblock_told HR.out _ g p0 (.slice A1 ys.length c1) ys most AT.out HP.out HM0_.out HM1.out (8 * l.length + 1) (Nat.lt_succ_self _); rw [H1.out] at hcc; refine hcc.mono ?_; clear hcc; rintro e w' ⟨b_, rfl, hb, hne_⟩; have HW := Ak (AT.out.below.trans hb); clear hb; have qe_ := eq_false hne_; have qeb_ := bne_iff_ne.2 hne_; have HNE := Ak hne_; clear hne_)
      go_ret3; rw [HRR.out]; exact ⟨rfl, HW.out, HNE.out⟩
    | ok r1 => ?_
    obtain ⟨last, p1, zs⟩ := r1; rw [h1] at hR0; have hmo := block_more h1; have hfi := block_fits l most (8 * l.length + 1) p0 ys HM0_.out _ h1; dsimp only at hmo hfi; have H1 := Ak h1; have hKK := HK.out; have HM2 := Ak hfi; clear h1 hfi
    cases last with
    | false =>
      have HR0 := Ak (show decodeM l most (8 * l.length + 1) k1 p1 zs = R0 from hR0); have HKN := Ak (show 8 * l.length < k1 + p1 by omega); clear hR0 hmo hKK
      go_wp2_with (go_at_call 12; have hcc := sblock_told HR.out _ g p0 (.slice A1 ys.length c1) ys most AT.out HP.out HM0_.out HM1.out (8 * l.length + 1) (Nat.lt_succ_self _); rw [H1.out] at hcc; refine hcc.mono ?_; clear hcc; rintro e w' ⟨rfl, hq_, v2, hat_, hm_⟩; clear AT HP; have AT := Ak hat_; have HP := Ak hq_; clear hat_ hq_ hm_)
      go_roundg k1
      case measure => omega
      case rel => exact ⟨p1, zs, _, AT, HP, HM2, HR0, HKN⟩
    | true => ?_
    obtain rfl : R0 = .ok (p1, zs) := hR0.symm; have HRR_ := Ak (show R = .ok ((p1 + 7) / 8, zs) from HRR.out.symm); clear HRR; have HRR := HRR_; have hp1 : p1 ≤ 8 * l.length := block_in l most (8 * l.length + 1) p0 ys _ H1.out; have hlen := HR.out.len; have HQ := Ak (show wrap64 (Int.tdiv (wrap64 ((p1 : Int) + 7)) 8) = (((p1 + 7) / 8 : Nat) : Int) from by rw [wrap64_id (x := (p1 : Int) + 7) (by omega) (by omega), show (p1 : Int) + 7 = ((p1 + 7 : Nat) : Int) by omega, tdiv8, wrap64_id (by omega) (by omega)]); clear hR0 hmo hKK hp1 hlen HRR_
    go_upto_region 8 with (go_at_call 12; have hcc := sblock_told HR.out _ g p0 (.slice A1 ys.length c1) ys most AT.out HP.out HM0_.out HM1.out (8 * l.length + 1) (Nat.lt_succ_self _); rw [H1.out] at hcc; refine hcc.mono ?_; clear hcc; rintro e w' ⟨rfl, hq_, v2, hat_, hm_⟩; clear AT HP; have AT := Ak hat_; have HP := Ak hq_; clear hat_ hq_ hm_)
    obtain ⟨A2, c2, rfl⟩ := Kd.R_slice AT.out.row; replace AT := Ak (AT.out.on (below_drew (Below.refl _ _))); refine sq 13 (S := fun w' => w'.cell? ⟨g, 3, none⟩ = some (.slice A2 zs.length c2) ∧ w'.cell? ⟨g, 2, none⟩ = some (.int .i64 (p1 : Int))) (ds := []) ⟨(blk_cell AT.out.blk 3).trans rfl, (blk_cell AT.out.blk 2).trans rfl⟩ fun hHeld => ?_; generalize w'.drew = wd at AT hHeld ⊢; refine pq 0 33 ?_; refine pq 1 34 ?_; refine pq 2 35 ?_; refine pq 4 37 ?_; refine pq 5 38 ?_; refine pq 6 39 ?_; refine tq 3 36 ?_ hHeld; refine pq 10 4 ?_; refine tq 7 40 ?_ hHeld; refine pq 8 41 ?_; refine pq 9 42 ?_; refine pq 11 5 ?_; refine pq 12 6 ?_; refine dq ?_; clear hHeld; simp only [HQ.out]; go_wp2; go_ret3; rw [HRR.out]; exact ⟨_, rfl, AT.out.row, AT.out.below⟩
end
end Go.Proofs.YtgflkkjhckcipaaGreatDoor.Pr

-- YtgflkkjhckcipaaGreatDoorPg0
namespace Go.Proofs.YtgflkkjhckcipaaGreatDoor.Pg
open Go.RowKit Go.Proofs.YtgflkkjhckcipaaGreatDoorW.PrintWords Go.Proofs.YtgflkkjhckcipaaGreatDoorW.PrintLast Go.Proofs.YtgflkkjhckcipaaGreatDoorW.PrintMore
attribute [local go_sem] max2_int min2_int max_two min_two max_three min_three max_four min_four   -- for this text's walks alone
set_option linter.unusedVariables false
set_option linter.unusedSimpArgs false

theorem u8_w (n : Int) : IntKind.u8.wrap n = n % 256 := IntKind.wrap_u8 n



def errW : Option Int → Value
  | none => .nilIface
  | some c => .iface 0 (.int .i64 c)
theorem errW_none : errW none = .nilIface := rfl
theorem errW_some (c : Int) : errW (some c) = .iface 0 (.int .i64 c) := rfl

theorem info3 : (Tryz.prog.info? 3).map (fun i => (i.zero, i.size, i.bytes)) = some (some (.int .i64 0), 1, 8) := by kernel_rfl
theorem info5 : (Tryz.prog.info? 5).map (fun i => (i.zero, i.size, i.bytes)) = some (some (.int .u8 0), 1, 1) := by kernel_rfl
-- the values' own types

-- YtgflkkjhckcipaaGreatDoorPg4
attribute [local go_sem] max2_int min2_int max_two min_two max_three min_three max_four min_four   -- for this text's walks alone
set_option linter.unusedVariables false
set_option linter.unusedSimpArgs false

def inflate_Decode.f (l0 : List Int) (a1 : Int) : Option (List Int × Int × Int) := if Pr.bytB l0 = true then some (Pr.decS l0 a1) else none
theorem inflate_Decode.calls (A0 : Option Addr) (c0 : Nat) (l0 : List Int) (a1 : Int) (r1 : List Int) (r2 : Int) (r3 : Int) (w : World) (hr0 : Kd.C (Kd.int .u8) w A0 l0.length l0) (hc0 : l0.length ≤ c0) (h : inflate_Decode.f l0 a1 = some (r1, r2, r3)) (HG : Pr.Handle w) :
    Calls Tryz.prog 6 #[.slice A0 l0.length c0, .int .i64 a1] w fun e w' => ∃ v0_ : Value, e = .returned (.tuple #[v0_, .int .i64 r2, .int .i64 r3]) ∧ Kd.R (Kd.int .u8) 5 w' w.heap.size (fun _ => True) v0_ r1 ∧ Below w.heap.size w w' := by
  unfold inflate_Decode.f at h; split at h
  · next hb =>
    injection h with h
    obtain ⟨hb1, hb2⟩ := Pr.bytB_iff.1 hb; have hc := Pr.decode_told (A := A0) (c := c0) (l := l0) (w := w) ⟨hr0, hc0, hb1, hb2⟩ a1 HG; refine hc.mono ?_; intro e w' ht; unfold Pr.decS at h
    cases hi : Pr.inflM l0 a1 with
    | error er =>
      rw [hi] at h ht
      injection h with h1 h2
      injection h2 with h2 h3
      subst h1 h2 h3; obtain ⟨he, hB, _⟩ := ht; exact ⟨_, he, Kd.R_nil _ _ _ _ _, hB⟩
    | ok r => ?_
    obtain ⟨n, ys⟩ := r; rw [hi] at h ht
    injection h with h1 h2
    injection h2 with h2 h3
    subst h1 h2 h3; obtain ⟨v, he, hR, hB⟩ := ht; exact ⟨v, he, hR, hB⟩
  cases h

def valiselaw09_lives.f  : Option (Bool) := some true
theorem valiselaw09_lives.true_ : valiselaw09_lives.f = some true := rfl
theorem valiselaw09_lives.calls (r : Bool) (w : World) (HGL : Pr.Handle w) (h : valiselaw09_lives.f  = some r) :
    Calls Tryz.prog 5 #[] w fun e w' => e = .returned (.bool r) ∧ Below w.heap.size w w' := by
  injection h with h
  subst h; exact Pr.lives_calls w HGL

-- YtgflkkjhckcipaaGreatDoorPg27
attribute [local go_sem] max2_int min2_int max_two min_two max_three min_three max_four min_four   -- for this text's walks alone
set_option linter.unusedVariables false
set_option linter.unusedSimpArgs false

def valiseref09_Decode.f (l0 : List Int) (a1 : Int) : Option (List Int × Int × Int) := if Pr.bytB l0 = true then some (Pr.decS l0 a1) else none
theorem valiseref09_Decode.calls (A0 : Option Addr) (c0 : Nat) (l0 : List Int) (a1 : Int) (r1 : List Int) (r2 : Int) (r3 : Int) (w : World) (hr0 : Kd.C (Kd.int .u8) w A0 l0.length l0) (hc0 : l0.length ≤ c0) (h : valiseref09_Decode.f l0 a1 = some (r1, r2, r3)) :
    Calls Tryz.prog 7 #[.slice A0 l0.length c0, .int .i64 a1] w fun e w' => ∃ v0_ : Value, e = .returned (.tuple #[v0_, .int .i64 r2, .int .i64 r3]) ∧ Kd.R (Kd.int .u8) 5 w' w.heap.size (fun _ => True) v0_ r1 ∧ Below w.heap.size w w' := by
  unfold valiseref09_Decode.f at h; split at h
  · next hb =>
    injection h with h
    obtain ⟨hb1, hb2⟩ := Pr.bytB_iff.1 hb; have hc := Pr.rdecode_told (A := A0) (c := c0) (l := l0) (w := w) ⟨hr0, hc0, hb1, hb2⟩ a1; refine hc.mono ?_; intro e w' ht; unfold Pr.decS at h
    cases hi : Pr.inflM l0 a1 with
    | error er =>
      rw [hi] at h ht
      injection h with h1 h2
      injection h2 with h2 h3
      subst h1 h2 h3; obtain ⟨he, hB, _⟩ := ht; exact ⟨_, he, Kd.R_nil _ _ _ _ _, hB⟩
    | ok r => ?_
    obtain ⟨n, ys⟩ := r; rw [hi] at h ht
    injection h with h1 h2
    injection h2 with h2 h3
    subst h1 h2 h3; obtain ⟨v, he, hR, hB⟩ := ht; exact ⟨v, he, hR, hB⟩
  cases h

-- YtgflkkjhckcipaaGreatDoorPg28
attribute [local go_sem] max2_int min2_int max_two min_two max_three min_three max_four min_four   -- for this text's walks alone
set_option linter.unusedVariables false
set_option linter.unusedSimpArgs false

def valiselaw09_InflateDecodes.f (l0 : List Int) (a1 : Int) : Option (Bool) := if (l0.length : Int) > 600 then ((valiselaw09_lives.f).bind fun t258 => (some t258)) else ((some (([] : List Int) : List Int)).bind fun y259 => (if y259.length + l0.length < 140737488355328 then ((some (y259 ++ l0 : List Int)).bind fun y262 => ((inflate_Decode.f y262 a1).bind fun bt265 => ((valiseref09_Decode.f l0 a1).bind fun bt270 => (if (strOfNums bt265.1).toList = (strOfNums bt270.1).toList then (if bt265.2.1 = bt270.2.1 then (if bt265.2.2 = bt270.2.2 then (if (strOfNums y262).toList = (strOfNums l0).toList then ((valiselaw09_lives.f).bind fun t275 => (some t275)) else (some false)) else (some false)) else (some false)) else (some false))))) else (none)))
theorem valiselaw09_InflateDecodes.calls (A0 : Option Addr) (c0 : Nat) (l0 : List Int) (a1 : Int) (r : Bool) (w : World) (hr0 : Kd.C (Kd.int .u8) w A0 l0.length l0) (hc0 : l0.length ≤ c0) (HGL : Pr.Handle w) (h : valiselaw09_InflateDecodes.f l0 a1 = some r) (hrt : r = true) :
    Calls Tryz.prog 3 #[.slice A0 l0.length c0, .int .i64 a1] w fun e w' => e = .returned (.bool r) ∧ Below w.heap.size w w' := by
  have HR0 := Ak hr0; have HC0 := Ak hc0; clear hr0 hc0; have HB := Ak (Below.refl w.heap.size w); have HGH := Ak HGL; clear HGL; have H : (if (l0.length : Int) > 600 then ((valiselaw09_lives.f).bind fun t258 => (some t258)) else ((some (([] : List Int) : List Int)).bind fun y259 => (if y259.length + l0.length < 140737488355328 then ((some (y259 ++ l0 : List Int)).bind fun y262 => ((inflate_Decode.f y262 a1).bind fun bt265 => ((valiseref09_Decode.f l0 a1).bind fun bt270 => (if (strOfNums bt265.1).toList = (strOfNums bt270.1).toList then (if bt265.2.1 = bt270.2.1 then (if bt265.2.2 = bt270.2.2 then (if (strOfNums y262).toList = (strOfNums l0).toList then ((valiselaw09_lives.f).bind fun t275 => (some t275)) else (some false)) else (some false)) else (some false)) else (some false))))) else (none)))) = some r := h; clear h
  by_cases c3 : (l0.length : Int) > 600
  · rw [if_pos c3] at H; have c3b0 : decide (600 < (l0.length : Int)) = true := decide_eq_true c3; have c3b1 : decide (600 < l0.length) = true := decide_eq_true (by omega); clear c3; replace H := Option.bind_eq_some_iff.mp H; obtain ⟨t258, A40, H⟩ := H; replace H : (some t258) = some r := H; have A4 := Ak A40; clear A40; obtain rfl := Option.some.inj H; go_enter Tryz.func3, Tryz.ntmps3
    go_wp2_with (((with_reducible refine gate_callee (f := 5) rfl ?_); refine gl (some 15) Tryz.func5 #[] ?_; (with_reducible refine (valiselaw09_lives.calls  t258 _ (Pr.Handle.on HGH.out bl_ (Pr.Handle.pos HGH.out)) A4.out).mono ?_); rintro e w5 ⟨rfl, hb⟩; refine ⟨_, rfl, ?_⟩; replace HB := Ak (below_step bl_ hb); (try clear hb)))
    go_ret; exact ⟨by rfl, by repeat ((with_reducible exact HB.out))⟩
  rw [if_neg c3] at H; have c3b0 : decide (600 < (l0.length : Int)) = false := decide_eq_false c3; have c3b1 : decide (600 < l0.length) = false := decide_eq_false (by omega); clear c3; obtain ⟨y259, hy259⟩ : ∃ y_ : List Int, y_ = (([] : List Int)) := ⟨_, rfl⟩
  replace H : (if y259.length + l0.length < 140737488355328 then ((some (y259 ++ l0 : List Int)).bind fun y262 => ((inflate_Decode.f y262 a1).bind fun bt265 => ((valiseref09_Decode.f l0 a1).bind fun bt270 => (if (strOfNums bt265.1).toList = (strOfNums bt270.1).toList then (if bt265.2.1 = bt270.2.1 then (if bt265.2.2 = bt270.2.2 then (if (strOfNums y262).toList = (strOfNums l0).toList then ((valiselaw09_lives.f).bind fun t275 => (some t275)) else (some false)) else (some false)) else (some false)) else (some false))))) else (none)) = some r := by (have H2_ := (Option.bind_some _ _).symm.trans H; rw [hy259]; with_reducible exact H2_)
  have Ny259 := Ak hy259; clear hy259
  by_cases c6 : y259.length + l0.length < 140737488355328
  rotate_left
  · rw [if_neg c6] at H; exact absurd H (by simp)
  rw [if_pos c6] at H; have LMc6 := Ak c6; clear c6; obtain ⟨y262, hy262⟩ : ∃ y_ : List Int, y_ = (y259 ++ l0) := ⟨_, rfl⟩
  replace H : ((inflate_Decode.f y262 a1).bind fun bt265 => ((valiseref09_Decode.f l0 a1).bind fun bt270 => (if (strOfNums bt265.1).toList = (strOfNums bt270.1).toList then (if bt265.2.1 = bt270.2.1 then (if bt265.2.2 = bt270.2.2 then (if (strOfNums y262).toList = (strOfNums l0).toList then ((valiselaw09_lives.f).bind fun t275 => (some t275)) else (some false)) else (some false)) else (some false)) else (some false)))) = some r := by (have H2_ := (Option.bind_some _ _).symm.trans H; rw [hy262]; with_reducible exact H2_)
  have Ny262 := Ak hy262; clear hy262; replace H := Option.bind_eq_some_iff.mp H; obtain ⟨⟨t265, t266, t267⟩, A70, H⟩ := H; replace H : ((valiseref09_Decode.f l0 a1).bind fun bt270 => (if (strOfNums t265).toList = (strOfNums bt270.1).toList then (if t266 = bt270.2.1 then (if t267 = bt270.2.2 then (if (strOfNums y262).toList = (strOfNums l0).toList then ((valiselaw09_lives.f).bind fun t275 => (some t275)) else (some false)) else (some false)) else (some false)) else (some false))) = some r := H; have A7 := Ak A70; clear A70; replace H := Option.bind_eq_some_iff.mp H; obtain ⟨⟨t270, t271, t272⟩, A80, H⟩ := H; replace H : (if (strOfNums t265).toList = (strOfNums t270).toList then (if t266 = t271 then (if t267 = t272 then (if (strOfNums y262).toList = (strOfNums l0).toList then ((valiselaw09_lives.f).bind fun t275 => (some t275)) else (some false)) else (some false)) else (some false)) else (some false)) = some r := H; have A8 := Ak A80; clear A80
  by_cases c9 : (strOfNums t265).toList = (strOfNums t270).toList
  rotate_left
  · rw [if_neg c9] at H; have c9b0 : ((strOfNums t265).toList == (strOfNums t270).toList) = false := beq_eq_false_iff_ne.mpr c9; have c9b1 : ((strOfNums t265).toList != (strOfNums t270).toList) = true := bne_iff_ne.mpr c9; obtain rfl := Option.some.inj H; cases hrt
  rw [if_pos c9] at H; have c9b0 : ((strOfNums t265).toList == (strOfNums t270).toList) = true := beq_iff_eq.mpr c9; have c9b1 : ((strOfNums t265).toList != (strOfNums t270).toList) = false := bne_eq_false_iff_eq.mpr c9; clear c9
  by_cases c10 : t266 = t271
  rotate_left
  · rw [if_neg c10] at H; have c10b0 : (t266 == t271) = false := beq_eq_false_iff_ne.mpr c10; have c10b1 : (t266 != t271) = true := bne_iff_ne.mpr c10; obtain rfl := Option.some.inj H; cases hrt
  rw [if_pos c10] at H; have c10b0 : (t266 == t271) = true := beq_iff_eq.mpr c10; have c10b1 : (t266 != t271) = false := bne_eq_false_iff_eq.mpr c10; clear c10
  by_cases c11 : t267 = t272
  rotate_left
  · rw [if_neg c11] at H; have c11b0 : (t267 == t272) = false := beq_eq_false_iff_ne.mpr c11; have c11b1 : (t267 != t272) = true := bne_iff_ne.mpr c11; obtain rfl := Option.some.inj H; cases hrt
  rw [if_pos c11] at H; have c11b0 : (t267 == t272) = true := beq_iff_eq.mpr c11; have c11b1 : (t267 != t272) = false := bne_eq_false_iff_eq.mpr c11; clear c11
  by_cases c12 : (strOfNums y262).toList = (strOfNums l0).toList
  · rw [if_pos c12] at H; have c12b0 : ((strOfNums y262).toList == (strOfNums l0).toList) = true := beq_iff_eq.mpr c12; have c12b1 : ((strOfNums y262).toList != (strOfNums l0).toList) = false := bne_eq_false_iff_eq.mpr c12; clear c12; replace H := Option.bind_eq_some_iff.mp H; obtain ⟨t275, A130, H⟩ := H; replace H : (some t275) = some r := H; have A13 := Ak A130; clear A130; obtain rfl := Option.some.inj H; go_enter Tryz.func3, Tryz.ntmps3
    go_wp2_with (first | ((with_reducible refine gate_dst (N := 16) rfl ?_); refine Kd.R_lit (Kd.int .u8) _ 5 ?hg (N := 16) ?hd (xs := ([] : List Int)) (inner := []) (ok := fun _ => True) (okp := fun _ => True) ?hr ?hp (fun _ hk => hk) trivial (Below.refl _ _) (Nat.le_refl _) (by simp) ?_; (case hd => rfl); (case hg => rfl); (case hr => (go_simp; done)); (case hp => exact (Reps.none _ _)); intro v260 w14 ho15 hb hg_ hnew_; clear hg_ hnew_; (rw [← Ny259.out] at ho15); replace HO261 := Ak (Kd.R_lower ho15 (below_size bl_)); replace HB := Ak (below_step bl_ hb); clear hb ho15) | ((with_reducible refine gate_builtin (b := .append) (xs := #[.tmp 16, .tmp 17]) rfl ?_); at_builtin; refine Kd.R_append_rows (Kd.int .u8) (w0 := w) w.heap.size rfl (.tmp 16) (.tmp 17) 22 5 (.int .u8 0) 1 rfl Tryz.underlying22 info5 rfl (by decide) (by omega) v260 y259 l0 _ _ _ (fun _ => True) (fun _ => False) rfl rfl ?aO ?aR (fun _ _ h => h) (fun _ h => h.elim) ?aF ?aB ?aS ?aL ?_; (case aR => repeat (exact (Kd.C_below HR0.out HB.out))); (case aB => exact bl_); (case aF => exact (fun _ _ => trivial)); (case aO => exact (by (with_reducible repeat (fail)); exact HO261.out)); (case aS => exact (below_size bl_)); (case aL => have := LMc6.out; omega); intro v263 w16 ho hb hg hat; rw [← Ny262.out] at ho; replace HB := Ak (hb); replace HO264 := Ak (ho); clear ho hb hg hat; obtain ⟨Ao17, co17, eo17⟩ := Kd.R_slice HO264.out; subst eo17) | ((with_reducible refine gate_callee (f := 6) rfl ?_); refine gl (some 22) Tryz.func6 #[.slice Ao17 y262.length co17, .int .i64 a1] ?_; (with_reducible refine (inflate_Decode.calls _ _ y262 a1 t265 t266 t267 _ ?side1 ?side2 A7.out (Pr.Handle.on HGH.out bl_ (Pr.Handle.pos HGH.out))).mono ?_); (case side1 => repeat (exact (Kd.R_reads' HO264.out).2.2)); (case side2 => exact (Kd.R_reads' HO264.out).2.1); rintro e w18 ⟨v268, rfl, ho0, hb⟩; refine ⟨_, rfl, ?_⟩; replace HO269 := Ak (Kd.R_lower (Kd.R_new' ho0 (Kd.R_lt (by (with_reducible repeat (fail)); exact HO264.out))) (below_size bl_)); replace HO264 := Ak (Kd.R_elder' (by (with_reducible repeat (fail)); exact HO264.out) (Kd.R_base ho0) hb); replace HB := Ak (below_step bl_ hb); (try clear hb); (try clear ho0)) | ((with_reducible refine gate_callee (f := 7) rfl ?_); refine gl (some 29) Tryz.func7 #[.slice A0 l0.length c0, .int .i64 a1] ?_; (with_reducible refine (valiseref09_Decode.calls _ _ l0 a1 t270 t271 t272 _ ?side1 ?side2 A8.out).mono ?_); (case side1 => repeat (exact (Kd.C_below HR0.out HB.out))); (case side2 => exact HC0.out); rintro e w19 ⟨v273, rfl, ho0, hb⟩; refine ⟨_, rfl, ?_⟩; replace HO274 := Ak (Kd.R_lower (Kd.R_new' (Kd.R_new' ho0 (Kd.R_lt (by (with_reducible repeat (fail)); exact HO264.out))) (Kd.R_lt (by (with_reducible repeat (fail)); exact HO269.out))) (below_size bl_)); replace HO264 := Ak (Kd.R_elder' (by (with_reducible repeat (fail)); exact HO264.out) (Kd.R_base ho0) hb); replace HO269 := Ak (Kd.R_elder' (by (with_reducible repeat (fail)); exact HO269.out) (Kd.R_base ho0) hb); replace HB := Ak (below_step bl_ hb); (try clear hb); (try clear ho0); have hcv20 := own_string (P := Tryz.prog) Tryz.underlying22 Tryz.underlying5 Tryz.underlying9 (Kd.own_of_R HO269.out); have hcv21 := own_string (P := Tryz.prog) Tryz.underlying22 Tryz.underlying5 Tryz.underlying9 (Kd.own_of_R HO274.out); have hcv22 := own_string (P := Tryz.prog) Tryz.underlying22 Tryz.underlying5 Tryz.underlying9 (Kd.own_of_R HO264.out); have hcv23 := Kd.C_string (P := Tryz.prog) (A := A0) (c := c0) Tryz.underlying22 Tryz.underlying5 Tryz.underlying9 (Kd.C_below HR0.out HB.out)) | (go_at_call 5; (with_reducible refine (valiselaw09_lives.calls  t275 _ (Pr.Handle.on HGH.out bl_ (Pr.Handle.pos HGH.out)) A13.out).mono ?_); rintro e w24 ⟨rfl, hb⟩; replace HO264 := Ak (Kd.R_below (by (with_reducible repeat (fail)); exact HO264.out) hb); replace HO269 := Ak (Kd.R_below (by (with_reducible repeat (fail)); exact HO269.out) hb); replace HO274 := Ak (Kd.R_below (by (with_reducible repeat (fail)); exact HO274.out) hb); replace HB := Ak (below_step bl_ hb); (try clear hb)))
    go_ret; exact ⟨by (simp [*, errW_none, errW_some] <;> rfl), by repeat ((with_reducible exact HB.out))⟩
  rw [if_neg c12] at H; have c12b0 : ((strOfNums y262).toList == (strOfNums l0).toList) = false := beq_eq_false_iff_ne.mpr c12; have c12b1 : ((strOfNums y262).toList != (strOfNums l0).toList) = true := bne_iff_ne.mpr c12; obtain rfl := Option.some.inj H; cases hrt

def valiselaw09_InflateDecodes.Pure : Prop := ∀ (l0 : List Int) (a1 : Int), l0.length ≤ maxLen → l0.length * 1 ≤ 140737488351232 → (∀ x ∈ l0, (Lit.int .u8 x).wf = true) → (Lit.int .i64 a1).wf = true → valiselaw09_InflateDecodes.f l0 a1 = some true
theorem valiselaw09_InflateDecodes.walk (P : valiselaw09_InflateDecodes.Pure) (a0 : Option Addr) (len0 cap0 : Nat) (z0 : List Int) (a1 : Int) (w : World) (HGL : Pr.Handle w) (w0 : (a0 = none ∧ len0 = 0 ∧ cap0 = 0 ∧ z0 = []) ∨ ∃ x, a0 = some x ∧ len0 ≤ cap0 ∧ cap0 ≤ maxLen ∧ z0.length = cap0 ∧ (∀ i, i < z0.length → w.cell? (x.add i) = some (.int .u8 (z0.getD i 0))) ∧ ∀ n ∈ z0, (Lit.int .u8 n).wf = true) (y0 : len0 * 1 ≤ 140737488351232) (w1 : (Lit.int .i64 a1).wf = true) :
    Calls Tryz.prog 3 #[.slice a0 len0 cap0, .int .i64 a1] w fun e w' => e = .returned (.bool true) ∧ Below w.heap.size w w' := by
  obtain ⟨l0, rfl, hr0, hm0, hw0, hc0⟩ := ReadsInt.ofRowC w0; have h := P l0 a1 hm0 y0 hw0 w1; refine (valiselaw09_InflateDecodes.calls _ _ l0 a1 true w (Kd.C_of_reads (d := (0 : Int)) (h1 := fun _ => rfl) hr0) hc0 HGL h rfl).mono ?_; rintro e w' ⟨rfl, hd⟩; exact ⟨rfl, hd⟩

end Go.Proofs.YtgflkkjhckcipaaGreatDoor.Pg

-- YtgflkkjhckcipaaGreatDoorPureInflateDecodes
namespace Go.Proofs.YtgflkkjhckcipaaGreatDoor.PureInflateDecodes
open Go.RowKit Go.Proofs.YtgflkkjhckcipaaGreatDoor.Pg Go.Proofs.YtgflkkjhckcipaaGreatDoorW.PrintWords Go.Proofs.YtgflkkjhckcipaaGreatDoorW.PrintLast
set_option linter.unusedVariables false
set_option linter.unusedSimpArgs false
theorem byt_of {l : List Int} (h : ∀ x ∈ l, (Lit.int .u8 x).wf = true) : Pr.Byt l := Pr.byt_wf h
theorem decodes_true (l0 : List Int) (a1 : Int) (hb0 : Pr.Byt l0) (hl : l0.length ≤ 1000000) : valiselaw09_InflateDecodes.f l0 a1 = some true := by
  have hT := valiselaw09_lives.true_; unfold valiselaw09_InflateDecodes.f
  by_cases c1 : (l0.length : Int) > 600
  · rw [if_pos c1, hT]
    rfl
  have hB := Pr.bytB_iff.2 ⟨hb0, hl⟩
  have h1 : inflate_Decode.f l0 a1 = some (Pr.decS l0 a1) := by unfold inflate_Decode.f; rw [if_pos hB]
  have h2 : valiseref09_Decode.f l0 a1 = some (Pr.decS l0 a1) := by unfold valiseref09_Decode.f; rw [if_pos hB]
  rw [if_neg c1]; simp only [Option.bind_some, List.nil_append, List.length_nil, Nat.zero_add]; rw [if_pos (by omega), h1, h2]
  simp [hT]
theorem InflateDecodes : valiselaw09_InflateDecodes.Pure := by
  intro l0 a1 hm _ hw0 _
  by_cases hl : l0.length ≤ 1000000
  · exact decodes_true l0 a1 (byt_of hw0) hl
  unfold valiselaw09_InflateDecodes.f; rw [if_pos (by omega), valiselaw09_lives.true_]
  rfl
end Go.Proofs.YtgflkkjhckcipaaGreatDoor.PureInflateDecodes

