-- Texts by hand and by programs of this session, joined (wip/tool/merge.py).
import Derived.Shelf.Abstract
import Derived.Shelf.RegionOpen
import Derived.OwnWalkIn
import Derived.TacticsInMore
import Derived.LoopNIn
import Derived.LoopIn
import Derived.Test.YtgflkkjhckcipaaGreatDoorMID12
import Derived.Recover
import Derived.Defers
-- YtgflkkjhckcipaaGreatDoorIf18
set_option maxHeartbeats 16000000
set_option maxRecDepth 1000000
namespace Go.Proofs.YtgflkkjhckcipaaGreatDoor.Pr
open Go.RowKit Go.Shelf Go.Proofs.YtgflkkjhckcipaaGreatDoorW.PrintWords Go.Proofs.YtgflkkjhckcipaaGreatDoorW.PrintLast Go.Proofs.YtgflkkjhckcipaaGreatDoorW.PrintMore
set_option linter.unusedVariables false
set_option linter.unusedSimpArgs false
theorem read_sym {l z : List Int} (hb : Byt l) (hl : l.length ≤ 1000000) (hz : OKL z) {p : Nat} (hp : p ≤ 8 * l.length) : ∃ r1 r2 r3, readF 40 (Hu.countedS z).1 (Hu.symsS z) l (NN l) (p : Int) = some (r1, r2, r3) ∧ ((r3 = 0 ∧ ∃ q : Nat, r2 = (q : Int) ∧ symM l (some z) p = .ok (r1, q)) ∨ (r3 ≠ 0 ∧ symM l (some z) p = .error r3)) := by
  have hf := readF_eq (k := 40) (Nat.le_refl _) (l := z) (b := l) (n := NN l) ((p : Nat) : Int) hz hb (by omega) (by unfold NN; omega) (by unfold NN; omega); unfold readS at hf; rw [if_pos ⟨okR_whole hb, by omega, by unfold NN; omega⟩, Int.toNat_natCast] at hf; unfold NN at hf; rw [Int.toNat_natCast] at hf; have hs := scan_place z l (8 * l.length) 15 p 0 (by omega) hp; rw [show symM l (some z) p = (if (scan z l (8 * l.length) 15 p 0).2.2 = 0 then .ok ((scan z l (8 * l.length) 15 p 0).1, (scan z l (8 * l.length) 15 p 0).2.1.toNat) else .error (scan z l (8 * l.length) 15 p 0).2.2) from rfl]; generalize scan z l (8 * l.length) 15 p 0 = r at *; obtain ⟨r1, r2, r3⟩ := r; refine ⟨r1, r2, r3, hf, ?_⟩; dsimp only at hs ⊢
  by_cases h0 : r3 = 0
  · obtain ⟨q, e2, h4, h5⟩ := hs h0; exact .inl ⟨h0, q, e2, by rw [if_pos h0, e2, Int.toNat_natCast]⟩
  exact .inr ⟨h0, by rw [if_neg h0]⟩
theorem read_sym_ok {l z : List Int} (hb : Byt l) (hl : l.length ≤ 1000000) (hz : OKL z) {p q : Nat} {s : Int} (hp : p ≤ 8 * l.length) (h : symM l (some z) p = .ok (s, q)) : readF 40 (Hu.countedS z).1 (Hu.symsS z) l (NN l) (p : Int) = some (s, (q : Int), 0) := by
  obtain ⟨r1, r2, r3, hf, ⟨h0, q2, e, he⟩ | ⟨h0, he⟩⟩ := read_sym hb hl hz hp
  · rw [h] at he
    injection he with he
    injection he with h1 h2
    subst h1 h2 e h0; exact hf
  rw [h] at he; cases he
theorem read_sym_bad {l z : List Int} (hb : Byt l) (hl : l.length ≤ 1000000) (hz : OKL z) {p : Nat} {er : Int} (hp : p ≤ 8 * l.length) (h : symM l (some z) p = .error er) : ∃ r1 r2, readF 40 (Hu.countedS z).1 (Hu.symsS z) l (NN l) (p : Int) = some (r1, r2, er) ∧ er ≠ 0 := by
  obtain ⟨r1, r2, r3, hf, ⟨h0, q2, e, he⟩ | ⟨h0, he⟩⟩ := read_sym hb hl hz hp
  · rw [h] at he; cases he
  rw [h] at he
  injection he with h1
  subst h1; exact ⟨r1, r2, hf, h0⟩
theorem extra_eq (s : Int) : header_extra.f s = some ((extraN s : Nat) : Int) := by
  unfold header_extra.f extraN
  split
  · rfl
  split
  · rfl
  split <;> rfl
theorem extraN_le (s : Int) : extraN s ≤ 7 := by
  unfold extraN
  split
  · decide
  split
  · decide
  split <;> decide
theorem takeM_ok {out o2 : List Int} {s x : Int} {n : Nat} (h : takeM out s x n = .ok o2) (hl : out.length ≤ n) : o2.length ≤ n ∧ out.length < o2.length := by
  rw [takeM_eq] at h; split at h
  · cases h
  split at h
  · cases h
  next h1 =>
  injection h with h
  subst h
  have : 0 < takeN s x := by unfold takeN; split; omega; split; omega; split <;> omega
  rw [List.length_append, List.length_replicate]
  omega
theorem HRdrAt.onB {w0 w w' : World} {g c b0 : Nat} {A : Option Addr} {l : List Int} {N at_ : Int} (h : HRdrAt w0 w g A c l N at_) (hg : g < b0) (h0 : w0.heap.size ≤ b0) (hb : Below b0 w w') : HRdrAt w0 w' g A c l N at_ :=
  ⟨h.below.trans (hb.mono h0), h.ge, (hb.block g hg).trans h.blk⟩
theorem HMoved.onB {w w1 w2 : World} {g : Nat} (h : HMoved w w1 g) (hb : Below w.heap.size w1 w2) : HMoved w w2 g := ⟨Nat.le_trans h.size hb.size, fun k hk hg => (hb.block k hk).trans (h.keep k hk hg)⟩
theorem TabIn.hmoved {w w' : World} {g gt : Nat} {cl ss : List Int} {cells : Array Value} (h : TabIn w gt cl ss) (hb : w.heap[g]? = some (.cells cells 115 (0, 0))) (hm : HMoved w w' g) : TabIn w' gt cl ss := h.same fun k t cells2 hc ht => by
  refine hm.keep k (blk_lt hc) (fun e => ?_); subst e; rw [hc] at hb
  injection hb with hb
  injection hb with _ hb _
  rcases ht with rfl | rfl <;> exact absurd hb (by decide)
def HToldL (w0 w : World) (g : Nat) (A : Option Addr) (c : Nat) (l : List Int) (n : Nat) (e : Ending) (w' : World) : Except Int (List Int × Nat) → Prop
  | .ok (all, p') => ∃ v', e = .returned v' ∧ (Kd.int .i64).R 3 w' w.heap.size (fun _ => True) v' all ∧ all.length = n ∧ p' ≤ 8 * l.length ∧ HRdrAt w0 w' g A c l (NN l) ((p' : Nat) : Int) ∧ HMoved w w' g
  | .error er => HGives w0.heap.size w w' er e
section
attribute [local go_sem] Oper.semAt_some
theorem lengths_told {w0 : World} {A : Option Addr} {c : Nat} {l : List Int} (hr : RowOk w0 A c l) (w : World) (g p n : Nat) (m : Int) (hm : m = (n : Int)) (hn : n ≤ 1000) (H : HRdrAt w0 w g A c l (NN l) (p : Int)) (hp : p ≤ 8 * l.length) (gt : Nat) (z : List Int) (hz : OKL z) (hT : TabIn w gt (Hu.countedS z).1 (Hu.symsS z)) (k : Nat) (hk : 8 * l.length - p < k) :
    Calls Tryz.prog 51 #[.pointer (some ⟨g, 0, none⟩), .pointer (some ⟨gt, 0, none⟩), .int .i64 m] w fun e w' => HToldL w0 w g A c l n e w' (lengthsM l z n k p []) := by
  subst hm; have HR := Ak hr; have HX := Ak H; have AT := Ak H; have MV := Ak (HMoved.of_below g (Below.refl w.heap.size w)); have HP := Ak hp; have HN := Ak hn; have HT := Ak hT; have HZ := Ak hz; have HK := Ak hk; have huR := Tryz.underlying115; have huB := Tryz.underlying43; have HO := Ak (show (Kd.int .i64).R 3 w w.heap.size (fun _ => True) (.slice none 0 0) [] from Kd.R_nil _ _ _ _ _); obtain ⟨R, hR⟩ : ∃ R, lengthsM l z n k p [] = R := ⟨_, rfl⟩; rw [hR]; have HRR := Ak hR; clear hr H hp hn hT hz hk hR; go_enter Tryz.func51, Tryz.ntmps51; go_wp2
  go_loopg [7] k (fun kq v7 w' => ∃ (p' : Nat) (out : List Int), Aside0 (HRdrAt w0 w' g A c l (NN l) (p' : Int)) ∧ Aside0 (HMoved w w' g) ∧ Aside0 ((Kd.int .i64).R 3 w' w.heap.size (fun _ => True) v7 out) ∧ Aside0 (p' ≤ 8 * l.length) ∧ Aside0 (out.length ≤ n) ∧ Aside0 (lengthsM l z n kq p' out = R) ∧ Aside0 (8 * l.length - p' < kq))
  case atStart => exact ⟨p, [], AT, MV, HO, HP, ⟨Nat.zero_le _⟩, HRR, HK⟩
  case round =>
    clear AT MV HO HP HRR HK; obtain ⟨p1, out, AT, MV, HO, HP, HOL, HRR, HK⟩ := hrel; have hRR := HRR.out; clear HRR; obtain ⟨A1, c1, ev1⟩ := Kd.R_slice HO.out
    cases gk with
    | zero => exact absurd HK.out (by omega)
    | succ k1 => ?_
    unfold lengthsM at hRR
    by_cases hlt : out.length < n
    rotate_left
    · rw [if_neg hlt] at hRR; have q0 := eq_false (show ¬ (out.length : Int) < (n : Int) by omega); have q0b := eq_false hlt; have HRR := Ak hRR.symm; have HLN := Ak (show out.length = n by have := HOL.out; omega); clear hRR hlt; subst ev1; go_wp2; go_ret; rw [HRR.out]; exact ⟨_, rfl, HO.out, HLN.out, HP.out, AT.out, MV.out⟩
    rw [if_pos hlt] at hRR; have q0 := eq_true (show (out.length : Int) < (n : Int) by omega); have q0b := eq_true hlt; obtain ⟨v1, hv1⟩ : ∃ v1, v1 = Value.slice A1 out.length c1 := ⟨_, rfl⟩; subst ev1
    cases hsm : symM l (some z) p1 with
    | error er =>
      rw [hsm] at hRR; have HRR := Ak hRR.symm; obtain ⟨r1, r2, hf, he0⟩ := read_sym_bad HR.out.byt HR.out.len HZ.out HP.out hsm; have HF := Ak hf; have HE0 := Ak he0; clear hRR hsm hf he0 hlt
      go_upto_region 3 with (fail)
      have hb := below_drew (Below.refl wr.heap.size wr); replace AT := Ak (AT.out.on hb); replace MV := Ak (MV.out.onB (hb.mono MV.out.size)); replace HO := Ak (Kd.R_below HO.out hb); clear hb; refine sq 17 (S := fun w' => w'.cell? ⟨g, 0, none⟩ = some (.slice A l.length c) ∧ w'.cell? ⟨g, 1, none⟩ = some (.int .i64 (NN l)) ∧ w'.cell? ⟨g, 2, none⟩ = some (.int .i64 (p1 : Int))) (ds := []) ⟨(blk_cell AT.out.blk 0).trans rfl, (blk_cell AT.out.blk 1).trans rfl, (blk_cell AT.out.blk 2).trans rfl⟩ fun hHeld => ?_; generalize wr.drew = wd at AT MV HO hHeld ⊢; refine pq 0 16 ?_; refine pq 1 17 ?_; refine pq 2 18 ?_; refine pq 3 19 ?_; refine pq 5 21 ?_; refine pq 6 22 ?_; refine pq 7 23 ?_; refine tq 4 20 ?_ hHeld; refine tq 8 24 ?_ hHeld; refine oq 9 25 fun K hK => ?_; refine gq Tryz.func63 #[.pointer (some ⟨gt, 0, none⟩), .agg #[.slice A l.length c, .int .i64 (NN l)], .int .i64 (p1 : Int)] ?_
      with_reducible refine (table_Read.calls 40 gt A c l (NN l) (p1 : Int) _ _ r1 r2 er _ (Kd.C_below HR.out.C AT.out.below) HR.out.cap (HT.out.hmoved HX.out.blk MV.out).at_ HF.out).mono ?_
      rintro e w5 ⟨rfl, hb⟩; refine ⟨_, rfl, ?_⟩; replace AT := Ak (AT.out.on hb); replace MV := Ak (MV.out.onB (hb.mono MV.out.size)); replace HO := Ak (Kd.R_below HO.out hb); clear hb; refine hK.out _ _ ⟨(blk_cell AT.out.blk 0).trans rfl, (blk_cell AT.out.blk 1).trans rfl, (blk_cell AT.out.blk 2).trans rfl⟩ (fun hHeld => ?_); clear hK K; refine nq 25 ?_; refine pq 10 15 ?_; refine pq 11 26 ?_; refine pq 12 27 ?_; refine pq 13 28 ?_; refine pq 14 8 ?_; refine pq 15 9 ?_; refine pq 16 10 ?_; refine dq ?_
      go_wp2_with (go_at_call 49; refine (hmust_else _ er HE0.out _).mono ?_; rintro e w' ⟨rfl, hb⟩)
      exact ⟨rfl, by rw [HRR.out]; exact ⟨rfl, (HX.out.between AT.out MV.out.size).trans (hb.mono AT.out.below.size)⟩⟩
    | ok r1 => ?_
    obtain ⟨s, p2⟩ := r1; have hsb := symM_ok HZ.out HP.out hsm; rw [hsm] at hRR; dsimp only at hRR; have HF := Ak (read_sym_ok HR.out.byt HR.out.len HZ.out HP.out hsm); have HSB := Ak hsb; have HP2 := Ak hsb.2.2.2.2; have HEX := Ak (extra_eq s); clear hsm hsb hlt
    cases hbm : bitsM l p2 (extraN s) with
    | error er =>
      rw [hbm] at hRR; have HRR := Ak hRR.symm; have HBM := Ak hbm; clear hRR hbm
      go_upto_region 3 with (fail)
      have hb := below_drew (Below.refl wr.heap.size wr); replace AT := Ak (AT.out.on hb); replace MV := Ak (MV.out.onB (hb.mono MV.out.size)); replace HO := Ak (Kd.R_below HO.out hb); clear hb; refine sq 17 (S := fun w' => w'.cell? ⟨g, 0, none⟩ = some (.slice A l.length c) ∧ w'.cell? ⟨g, 1, none⟩ = some (.int .i64 (NN l)) ∧ w'.cell? ⟨g, 2, none⟩ = some (.int .i64 (p1 : Int))) (ds := []) ⟨(blk_cell AT.out.blk 0).trans rfl, (blk_cell AT.out.blk 1).trans rfl, (blk_cell AT.out.blk 2).trans rfl⟩ fun hHeld => ?_; generalize wr.drew = wd at AT MV HO hHeld ⊢; refine pq 0 16 ?_; refine pq 1 17 ?_; refine pq 2 18 ?_; refine pq 3 19 ?_; refine pq 5 21 ?_; refine pq 6 22 ?_; refine pq 7 23 ?_; refine tq 4 20 ?_ hHeld; refine tq 8 24 ?_ hHeld; refine oq 9 25 fun K hK => ?_; refine gq Tryz.func63 #[.pointer (some ⟨gt, 0, none⟩), .agg #[.slice A l.length c, .int .i64 (NN l)], .int .i64 (p1 : Int)] ?_
      with_reducible refine (table_Read.calls 40 gt A c l (NN l) (p1 : Int) _ _ s (p2 : Int) 0 _ (Kd.C_below HR.out.C AT.out.below) HR.out.cap (HT.out.hmoved HX.out.blk MV.out).at_ HF.out).mono ?_
      rintro e w5 ⟨rfl, hb⟩; refine ⟨_, rfl, ?_⟩; replace AT := Ak (AT.out.on hb); replace MV := Ak (MV.out.onB (hb.mono MV.out.size)); replace HO := Ak (Kd.R_below HO.out hb); clear hb; refine hK.out _ _ ⟨(blk_cell AT.out.blk 0).trans rfl, (blk_cell AT.out.blk 1).trans rfl, (blk_cell AT.out.blk 2).trans rfl⟩ (fun hHeld => ?_); clear hK K; refine nq 25 ?_; refine pq 10 15 ?_; refine pq 11 26 ?_; refine pq 12 27 ?_; refine pq 13 28 ?_; refine pq 14 8 ?_; refine pq 15 9 ?_; refine pq 16 10 ?_; refine dq ?_; have hc2 : w5.cell? ⟨g, 2, none⟩ = some (.int .i64 (p1 : Int)) := (blk_cell AT.out.blk 2).trans rfl; have hf2 := blk_frozen AT.out.blk 2
      go_wp2_with (first | (go_at_call 49; with_reducible refine (hmust_zero _ _).mono ?_; rintro e w' ⟨rfl, hw_⟩; subst hw_) | (go_at_call 75; refine (header_extra.calls s _ _ HEX.out).mono ?_; rintro e w6 ⟨rfl, hd⟩; have hb := hd.below; have AT0 := Ak (AT.out.setAt (p2 : Int)); have MV0 := Ak (MV.out.set_ 2 (.int .i64 (p2 : Int))); have HO0 := Ak (Kd.R_set HO.out AT.out.blk (by decide) 2 (.int .i64 (p2 : Int))); clear AT MV HO; have AT := Ak (AT0.out.on hb); have MV := Ak (MV0.out.onB (hb.mono MV0.out.size)); have HO := Ak (Kd.R_below HO0.out hb); clear AT0 MV0 HO0 hb hd HEX) | (go_at_call 48; have hcc := hbits_told HR.out _ g p2 (extraN s) _ rfl AT.out HP2.out (by have := extraN_le s; omega); rw [HBM.out] at hcc; refine hcc.mono ?_; clear hcc; rintro e w' ⟨rfl, hb⟩))
      exact ⟨rfl, by rw [HRR.out]; exact ⟨rfl, (HX.out.between AT.out MV.out.size).trans hb⟩⟩
    | ok r2 => ?_
    obtain ⟨x, p3⟩ := r2; have hbk := bitsM_ok hbm; rw [hbm] at hRR; dsimp only at hRR; have HXX := Ak (show 0 ≤ x ∧ x ≤ 1000 from by have h1 := getV_range l p2 (extraN s); have h2 : (2 : Int) ^ extraN s ≤ 2 ^ 7 := pow_le2 (extraN_le s); rw [hbk.1]; omega); have HB3 := Ak hbk.2; have HBM := Ak hbm; clear hbm hbk
    cases htm : takeM out s x n with
    | error er =>
      rw [htm] at hRR; have HRR := Ak hRR.symm; have HTM := Ak htm; clear hRR htm
      go_upto_region 3 with (fail)
      have hb := below_drew (Below.refl wr.heap.size wr); replace AT := Ak (AT.out.on hb); replace MV := Ak (MV.out.onB (hb.mono MV.out.size)); replace HO := Ak (Kd.R_below HO.out hb); clear hb; refine sq 17 (S := fun w' => w'.cell? ⟨g, 0, none⟩ = some (.slice A l.length c) ∧ w'.cell? ⟨g, 1, none⟩ = some (.int .i64 (NN l)) ∧ w'.cell? ⟨g, 2, none⟩ = some (.int .i64 (p1 : Int))) (ds := []) ⟨(blk_cell AT.out.blk 0).trans rfl, (blk_cell AT.out.blk 1).trans rfl, (blk_cell AT.out.blk 2).trans rfl⟩ fun hHeld => ?_; generalize wr.drew = wd at AT MV HO hHeld ⊢; refine pq 0 16 ?_; refine pq 1 17 ?_; refine pq 2 18 ?_; refine pq 3 19 ?_; refine pq 5 21 ?_; refine pq 6 22 ?_; refine pq 7 23 ?_; refine tq 4 20 ?_ hHeld; refine tq 8 24 ?_ hHeld; refine oq 9 25 fun K hK => ?_; refine gq Tryz.func63 #[.pointer (some ⟨gt, 0, none⟩), .agg #[.slice A l.length c, .int .i64 (NN l)], .int .i64 (p1 : Int)] ?_
      with_reducible refine (table_Read.calls 40 gt A c l (NN l) (p1 : Int) _ _ s (p2 : Int) 0 _ (Kd.C_below HR.out.C AT.out.below) HR.out.cap (HT.out.hmoved HX.out.blk MV.out).at_ HF.out).mono ?_
      rintro e w5 ⟨rfl, hb⟩; refine ⟨_, rfl, ?_⟩; replace AT := Ak (AT.out.on hb); replace MV := Ak (MV.out.onB (hb.mono MV.out.size)); replace HO := Ak (Kd.R_below HO.out hb); clear hb; refine hK.out _ _ ⟨(blk_cell AT.out.blk 0).trans rfl, (blk_cell AT.out.blk 1).trans rfl, (blk_cell AT.out.blk 2).trans rfl⟩ (fun hHeld => ?_); clear hK K; refine nq 25 ?_; refine pq 10 15 ?_; refine pq 11 26 ?_; refine pq 12 27 ?_; refine pq 13 28 ?_; refine pq 14 8 ?_; refine pq 15 9 ?_; refine pq 16 10 ?_; refine dq ?_; have hc2 : w5.cell? ⟨g, 2, none⟩ = some (.int .i64 (p1 : Int)) := (blk_cell AT.out.blk 2).trans rfl; have hf2 := blk_frozen AT.out.blk 2
      go_wp2_with (first | (go_at_call 49; with_reducible refine (hmust_zero _ _).mono ?_; rintro e w' ⟨rfl, hw_⟩; subst hw_) | (go_at_call 75; refine (header_extra.calls s _ _ HEX.out).mono ?_; rintro e w6 ⟨rfl, hd⟩; have hb := hd.below; have AT0 := Ak (AT.out.setAt (p2 : Int)); have MV0 := Ak (MV.out.set_ 2 (.int .i64 (p2 : Int))); have HO0 := Ak (Kd.R_set HO.out AT.out.blk (by decide) 2 (.int .i64 (p2 : Int))); clear AT MV HO; have AT := Ak (AT0.out.on hb); have MV := Ak (MV0.out.onB (hb.mono MV0.out.size)); have HO := Ak (Kd.R_below HO0.out hb); clear AT0 MV0 HO0 hb hd HEX) | (go_at_call 48; have hcc := hbits_told HR.out _ g p2 (extraN s) _ rfl AT.out HP2.out (by have := extraN_le s; omega); rw [HBM.out] at hcc; refine hcc.mono ?_; clear hcc; rintro e w' ⟨rfl, hq_, hat_, hm_⟩; have HO_ := Ak (HMoved.row HO.out AT.out.blk hm_); have MV_ := Ak (MV.out.trans hm_); have AT_ := Ak hat_; have HP_ := Ak hq_; clear AT MV HO HP2 hq_ hat_ hm_; have AT := AT_; have MV := MV_; have HO := HO_; have HP2 := HP_; clear AT_ MV_ HO_ HP_) | (go_at_call 74; have hcc := take_calls _ w.heap.size _ out s x n HO.out MV.out.size HXX.out.1 HXX.out.2 HN.out HOL.out; rw [HTM.out] at hcc; refine hcc.mono ?_; clear hcc; rintro e w' ⟨rfl, hb, hne_⟩; have HE0 := Ak hne_; replace AT := Ak (AT.out.on hb); replace MV := Ak (MV.out.onB (hb.mono MV.out.size)); clear HO hb hne_) | (go_at_call 49; refine (hmust_else _ er HE0.out _).mono ?_; rintro e w' ⟨rfl, hb⟩))
      exact ⟨rfl, by rw [HRR.out]; exact ⟨rfl, (HX.out.between AT.out MV.out.size).trans (hb.mono AT.out.below.size)⟩⟩
    | ok out2 => ?_
    have hto := takeM_ok htm HOL.out; rw [htm] at hRR; dsimp only at hRR; have HRR := Ak hRR; have HTM := Ak htm; have HTO := Ak hto.1; clear hRR htm hto
    go_upto_region 3 with (fail)
    have hb := below_drew (Below.refl wr.heap.size wr); replace AT := Ak (AT.out.on hb); replace MV := Ak (MV.out.onB (hb.mono MV.out.size)); replace HO := Ak (Kd.R_below HO.out hb); clear hb; refine sq 17 (S := fun w' => w'.cell? ⟨g, 0, none⟩ = some (.slice A l.length c) ∧ w'.cell? ⟨g, 1, none⟩ = some (.int .i64 (NN l)) ∧ w'.cell? ⟨g, 2, none⟩ = some (.int .i64 (p1 : Int))) (ds := []) ⟨(blk_cell AT.out.blk 0).trans rfl, (blk_cell AT.out.blk 1).trans rfl, (blk_cell AT.out.blk 2).trans rfl⟩ fun hHeld => ?_; generalize wr.drew = wd at AT MV HO hHeld ⊢; refine pq 0 16 ?_; refine pq 1 17 ?_; refine pq 2 18 ?_; refine pq 3 19 ?_; refine pq 5 21 ?_; refine pq 6 22 ?_; refine pq 7 23 ?_; refine tq 4 20 ?_ hHeld; refine tq 8 24 ?_ hHeld; refine oq 9 25 fun K hK => ?_; refine gq Tryz.func63 #[.pointer (some ⟨gt, 0, none⟩), .agg #[.slice A l.length c, .int .i64 (NN l)], .int .i64 (p1 : Int)] ?_
    with_reducible refine (table_Read.calls 40 gt A c l (NN l) (p1 : Int) _ _ s (p2 : Int) 0 _ (Kd.C_below HR.out.C AT.out.below) HR.out.cap (HT.out.hmoved HX.out.blk MV.out).at_ HF.out).mono ?_
    rintro e w5 ⟨rfl, hb⟩; refine ⟨_, rfl, ?_⟩; replace AT := Ak (AT.out.on hb); replace MV := Ak (MV.out.onB (hb.mono MV.out.size)); replace HO := Ak (Kd.R_below HO.out hb); clear hb; refine hK.out _ _ ⟨(blk_cell AT.out.blk 0).trans rfl, (blk_cell AT.out.blk 1).trans rfl, (blk_cell AT.out.blk 2).trans rfl⟩ (fun hHeld => ?_); clear hK K; refine nq 25 ?_; refine pq 10 15 ?_; refine pq 11 26 ?_; refine pq 12 27 ?_; refine pq 13 28 ?_; refine pq 14 8 ?_; refine pq 15 9 ?_; refine pq 16 10 ?_; refine dq ?_; have hc2 : w5.cell? ⟨g, 2, none⟩ = some (.int .i64 (p1 : Int)) := (blk_cell AT.out.blk 2).trans rfl; have hf2 := blk_frozen AT.out.blk 2
    go_wp2_with (first | (go_at_call 49; refine (hmust_zero _ _).mono ?_; rintro e w' ⟨rfl, hw_⟩; subst hw_) | (go_at_call 75; refine (header_extra.calls s _ _ HEX.out).mono ?_; rintro e w6 ⟨rfl, hd⟩; have hb := hd.below; have AT0 := Ak (AT.out.setAt (p2 : Int)); have MV0 := Ak (MV.out.set_ 2 (.int .i64 (p2 : Int))); have HO0 := Ak (Kd.R_set HO.out AT.out.blk (by decide) 2 (.int .i64 (p2 : Int))); clear AT MV HO; have AT := Ak (AT0.out.on hb); have MV := Ak (MV0.out.onB (hb.mono MV0.out.size)); have HO := Ak (Kd.R_below HO0.out hb); clear AT0 MV0 HO0 hb hd HEX) | (go_at_call 48; have hcc := hbits_told HR.out _ g p2 (extraN s) _ rfl AT.out HP2.out (by have := extraN_le s; omega); rw [HBM.out] at hcc; refine hcc.mono ?_; clear hcc; rintro e w' ⟨rfl, hq_, hat_, hm_⟩; have HO_ := Ak (HMoved.row HO.out AT.out.blk hm_); have MV_ := Ak (MV.out.trans hm_); have AT_ := Ak hat_; have HP_ := Ak hq_; clear AT MV HO HP2 hq_ hat_ hm_; have AT := AT_; have MV := MV_; have HO := HO_; have HP2 := HP_; clear AT_ MV_ HO_ HP_) | (go_at_call 74; have hcc := take_calls _ w.heap.size _ out s x n HO.out MV.out.size HXX.out.1 HXX.out.2 HN.out HOL.out; rw [HTM.out] at hcc; refine hcc.mono ?_; clear hcc; rintro e w' ⟨v2, rfl, ho_, hb_, _⟩; have AT_ := Ak (AT.out.onB (blk_lt HX.out.blk) HX.out.below.size hb_); have MV_ := Ak (MV.out.onB hb_); clear AT MV HO; have AT := AT_; have MV := MV_; have HO := Ak ho_; clear AT_ MV_ ho_ hb_))
    go_roundg k1
    case measure => omega
    case rel => exact ⟨p3, out2, AT, MV, HO, HP2, HTO, HRR, ⟨by have h1 := HSB.out; have h2 := HB3.out; have h3 := HK.out; omega⟩⟩
end
-- YtgflkkjhckcipaaGreatDoorIf19
section
attribute [local go_sem] Oper.semAt_some
theorem assert_errno (v : Value) (w : World) : Sem.run Tryz.prog (Instr.typeAssert (.iface 24 v) 20 24 true) w = .ok (.tuple #[v, .bool true]) w := by
  simp [Instr.typeAssert, Tryz.underlying24, go_sem]
attribute [local go_sem] assert_errno
theorem hcatch (a b c d : Nat) (ha : Value) (hb hc hd : Value) (er : Int) (older : List PanicEntry) (w : World) (hne : a ≠ b ∧ a ≠ c ∧ a ≠ d ∧ b ≠ c ∧ b ≠ d ∧ c ≠ d)
    (h0 : w.cell? ⟨a, 0, none⟩ = some ha) (h1 : w.cell? ⟨b, 0, none⟩ = some hb) (h2 : w.cell? ⟨c, 0, none⟩ = some hc) (h3 : w.cell? ⟨d, 0, none⟩ = some hd)
    (f0 : w.frozen? ⟨a, 0, none⟩ = false) (f1 : w.frozen? ⟨b, 0, none⟩ = false) (f2 : w.frozen? ⟨c, 0, none⟩ = false) (f3 : w.frozen? ⟨d, 0, none⟩ = false) :
    CallsD Tryz.prog 47 #[.pointer (some ⟨a, 0, none⟩), .pointer (some ⟨b, 0, none⟩), .pointer (some ⟨c, 0, none⟩), .pointer (some ⟨d, 0, none⟩)] (.panicking ({ v := .iface 24 (.int .i64 er), recovered := false } :: older)) w fun e u' w' =>
      e = .returned (.tuple #[]) ∧ u' = .panicking ({ v := .iface 24 (.int .i64 er), recovered := true } :: older) ∧ w' = (((w.setCell ⟨a, 0, none⟩ (.slice none 0 0)).setCell ⟨b, 0, none⟩ (.slice none 0 0)).setCell ⟨c, 0, none⟩ (.int .i64 0)).setCell ⟨d, 0, none⟩ (.int .i64 er) := by
  refine callsD_of_wpS Tryz.func47 rfl fun c₀ cs hu => ?_
  apply wpS_seq
  apply wpS_region
  simp [wpOpsS, go_sem, recoverD, hu, Tryz.ntmps47, Exit.thenS]
  apply wpS_of_wp
  change Code.wp _ _ _ ⟨#[.pointer (some ⟨a, 0, none⟩), .pointer (some ⟨b, 0, none⟩), .pointer (some ⟨c, 0, none⟩), .pointer (some ⟨d, 0, none⟩), .iface 24 (.int .i64 er), undef, undef, .iface 24 (.int .i64 er), undef, undef, undef, undef, undef, undef, undef, undef, undef, undef, undef], []⟩ _
  go_wp2
  simp [bodyPostS, results, Tryz.results47]
theorem hidle (a b c d : Nat) (w : World) :
    CallsD Tryz.prog 47 #[.pointer (some ⟨a, 0, none⟩), .pointer (some ⟨b, 0, none⟩), .pointer (some ⟨c, 0, none⟩), .pointer (some ⟨d, 0, none⟩)] .returning w fun e u' w' => e = .returned (.tuple #[]) ∧ u' = .returning ∧ w' = w := by
  refine callsD_of_wpS Tryz.func47 rfl fun c₀ cs hu => ?_
  apply wpS_seq
  apply wpS_region
  simp [wpOpsS, go_sem, recoverD, hu, Tryz.ntmps47, Exit.thenS]
  apply wpS_of_wp
  change Code.wp _ _ _ ⟨#[.pointer (some ⟨a, 0, none⟩), .pointer (some ⟨b, 0, none⟩), .pointer (some ⟨c, 0, none⟩), .pointer (some ⟨d, 0, none⟩), .nilIface, undef, undef, .nilIface, undef, undef, undef, undef, undef, undef, undef, undef, undef, undef, undef], []⟩ _
  go_wp2; cases c₀
  simp_all [bodyPostS, results, Tryz.results47]
end
-- YtgflkkjhckcipaaGreatDoorIf20
structure RowAt (w : World) (A : Option Addr) (xs : List Int) : Prop where
  C : (Kd.int .i64).C w A xs.length xs
  typed : ∀ ad, A = some ad → ∃ cells, w.heap[ad.block]? = some (.cells cells 3 (0, 0))
theorem RowAt.same {w w' : World} {A : Option Addr} {xs : List Int} (h : RowAt w A xs) (hk : ∀ (k : Nat) (cells : Array Value), w.heap[k]? = some (.cells cells 3 (0, 0)) → w'.heap[k]? = w.heap[k]?) : RowAt w' A xs := by
  refine ⟨C_eq h.C (fun ad e => ?_), fun ad e => ?_⟩
  · obtain ⟨cells, hc⟩ := h.typed ad e; exact hk _ _ hc
  obtain ⟨cells, hc⟩ := h.typed ad e; exact ⟨cells, (hk _ _ hc).trans hc⟩
theorem RowAt.on {w w' : World} {A : Option Addr} {xs : List Int} (h : RowAt w A xs) (hb : Below w.heap.size w w') : RowAt w' A xs := h.same fun k _ hc => hb.block k (blk_lt hc)
theorem RowAt.set_ {w : World} {A : Option Addr} {xs : List Int} {g j t : Nat} {cells : Array Value} (h : RowAt w A xs) (hb : w.heap[g]? = some (.cells cells t (0, 0))) (ht : t ≠ 3) (u : Value) : RowAt (w.setCell ⟨g, j, none⟩ u) A xs := h.same fun k c2 hc => Below.heap_setCell w ⟨g, j, none⟩ u k (fun e => by
  have e2 : k = g := e; subst e2; rw [hc] at hb
  injection hb with hb
  injection hb with _ hb _
  exact ht hb.symm)
def HToldR (w : World) (e : Ending) (w' : World) : Except Int (List Int × List Int × Nat) → Prop
  | .ok (lit, dist, p') => ∃ A1 c1 A2 c2, e = .returned (.tuple #[.slice A1 lit.length c1, .slice A2 dist.length c2, .int .i64 (p' : Int), .int .i64 0]) ∧ RowAt w' A1 lit ∧ RowAt w' A2 dist ∧ Below w.heap.size w w'
  | .error er => e = .returned (.tuple #[.slice none 0 0, .slice none 0 0, .int .i64 0, .int .i64 er]) ∧ Below w.heap.size w w' ∧ er ≠ 0
theorem hcatch2 (n a b c d : Nat) (x0 x1 x2 x3 : Value) (t0 t1 t2 t3 : TypeId) (er : Int) (older : List PanicEntry) (w : World) (hn : n ≤ a) (h01 : a < b) (h12 : b < c) (h23 : c < d)
    (h0 : w.heap[a]? = some (.cells #[x0] t0 (0, 0))) (h1 : w.heap[b]? = some (.cells #[x1] t1 (0, 0))) (h2 : w.heap[c]? = some (.cells #[x2] t2 (0, 0))) (h3 : w.heap[d]? = some (.cells #[x3] t3 (0, 0))) :
    CallsD Tryz.prog 47 #[.pointer (some ⟨a, 0, none⟩), .pointer (some ⟨b, 0, none⟩), .pointer (some ⟨c, 0, none⟩), .pointer (some ⟨d, 0, none⟩)] (.panicking ({ v := .iface 24 (.int .i64 er), recovered := false } :: older)) w fun e u' w' =>
      e = .returned (.tuple #[]) ∧ u' = .panicking ({ v := .iface 24 (.int .i64 er), recovered := true } :: older) ∧ w'.cell? ⟨a, 0, none⟩ = some (.slice none 0 0) ∧ w'.cell? ⟨b, 0, none⟩ = some (.slice none 0 0) ∧ w'.cell? ⟨c, 0, none⟩ = some (.int .i64 0) ∧ w'.cell? ⟨d, 0, none⟩ = some (.int .i64 er) ∧ Below n w w' := by
  refine (hcatch a b c d x0 x1 x2 x3 er older w ⟨by omega, by omega, by omega, by omega, by omega, by omega⟩ ((blk_cell h0 0).trans rfl) ((blk_cell h1 0).trans rfl) ((blk_cell h2 0).trans rfl) ((blk_cell h3 0).trans rfl) (blk_frozen h0 0) (blk_frozen h1 0) (blk_frozen h2 0) (blk_frozen h3 0)).mono ?_; rintro e u' w' ⟨h4, h5, rfl⟩; have s0 := blk_set h0 0 (.slice none 0 0); have k1 : ∀ (W : World) (g j : Nat) (u : Value), j ≠ g → (W.setCell ⟨g, 0, none⟩ u).heap[j]? = W.heap[j]? := fun W g j u hne => Below.heap_setCell W ⟨g, 0, none⟩ u j hne; have s1 := blk_set ((k1 w a b (.slice none 0 0) (by omega)).trans h1) 0 (.slice none 0 0); have s2 := blk_set ((k1 _ b c (.slice none 0 0) (by omega)).trans ((k1 w a c (.slice none 0 0) (by omega)).trans h2)) 0 (.int .i64 0); have s3 := blk_set ((k1 _ c d (.int .i64 0) (by omega)).trans ((k1 _ b d (.slice none 0 0) (by omega)).trans ((k1 w a d (.slice none 0 0) (by omega)).trans h3))) 0 (.int .i64 er); refine ⟨h4, h5, ?_, ?_, ?_, (blk_cell s3 0).trans rfl, ?_⟩
  · exact (blk_cell ((k1 _ d a (.int .i64 er) (by omega)).trans ((k1 _ c a (.int .i64 0) (by omega)).trans ((k1 _ b a (.slice none 0 0) (by omega)).trans s0))) 0).trans rfl
  · exact (blk_cell ((k1 _ d b (.int .i64 er) (by omega)).trans ((k1 _ c b (.int .i64 0) (by omega)).trans s1)) 0).trans rfl
  · exact (blk_cell ((k1 _ d c (.int .i64 er) (by omega)).trans s2) 0).trans rfl
  exact ((((Below.refl n w).setCell (p := ⟨a, 0, none⟩) hn _).setCell (p := ⟨b, 0, none⟩) (by show n ≤ b; omega) _).setCell (p := ⟨c, 0, none⟩) (by show n ≤ c; omega) _).setCell (p := ⟨d, 0, none⟩) (by show n ≤ d; omega) _
theorem bitsM_bad {l : List Int} {p n : Nat} {er : Int} (h : bitsM l p n = .error er) : er ≠ 0 := by
  unfold bitsM at h; split at h
  · cases h
  injection h with h
  omega
theorem newS_bad {l : List Int} : ∀ {d i p : Nat} {z : List Int} {er : Int}, codesM l d i p z = .error er → er ≠ 0
  | 0, i, p, z, er, h => by
    unfold codesM at h; split at h
    · cases h
    · next hz =>
      injection h with h
      rw [← h]; exact hz
  | d + 1, i, p, z, er, h => by
    unfold codesM at h
    cases hb : bitsM l p 3 with
    | error e =>
      rw [hb] at h
      injection h with h
      rw [← h]; exact bitsM_bad hb
    | ok r =>
      obtain ⟨x, p1⟩ := r; rw [hb] at h; exact newS_bad h
theorem takeM_bad {out : List Int} {s x : Int} {n : Nat} {er : Int} (h : takeM out s x n = .error er) : er ≠ 0 := by
  rw [takeM_eq] at h; split at h
  · injection h with h
    omega
  split at h
  · injection h with h
    omega
  cases h
theorem lengthsM_bad {l z : List Int} (hb : Byt l) (hl : l.length ≤ 1000000) (hz : OKL z) {n : Nat} : ∀ {k p : Nat} {out : List Int} {er : Int}, 8 * l.length - p < k → p ≤ 8 * l.length → lengthsM l z n k p out = .error er → er ≠ 0
  | 0, p, out, er, hk, hp, h => by omega
  | k + 1, p, out, er, hk, hp, h => by
    unfold lengthsM at h; split at h
    · cases hs : symM l (some z) p with
      | error e =>
        rw [hs] at h
        injection h with h
        obtain ⟨_, _, _, h0⟩ := read_sym_bad hb hl hz hp hs; rw [← h]; exact h0
      | ok r =>
        obtain ⟨s, p1⟩ := r; have hso := symM_ok hz hp hs; rw [hs] at h; dsimp only at h
        cases hx : bitsM l p1 (extraN s) with
        | error e =>
          rw [hx] at h
          injection h with h
          rw [← h]; exact bitsM_bad hx
        | ok r2 =>
          obtain ⟨x, p2⟩ := r2; have hbo := bitsM_ok hx; rw [hx] at h; dsimp only at h
          cases ht : takeM out s x n with
          | error e =>
            rw [ht] at h
            injection h with h
            rw [← h]; exact takeM_bad ht
          | ok o2 =>
            rw [ht] at h; exact lengthsM_bad hb hl hz (by omega) (by omega) h
    · cases h
theorem R_store_old {W : World} {base e g j : Nat} {v u : Value} {xs : List Int} (h : Kd.R (Kd.int .i64) e W base (fun _ => True) v xs) (hg : g < base) : Kd.R (Kd.int .i64) e (W.setCell ⟨g, j, none⟩ u) base (fun _ => True) v xs :=
  Kd.R_mono (Kd.R_far (p := ⟨g, j, none⟩) (Kd.R_mono (Kd.R_bound h) (fun k hk => (⟨trivial, by have := hk.2.1; omega⟩ : True ∧ k ≠ g))) (fun k hk => hk.2) u) (fun _ _ => trivial)
def OnlyN (Q : Exit → Act → World → Prop) : Exit → Act → World → Prop
  | .normal, a, w => Q .normal a w
  | _, _, _ => False
theorem wp_onlyN {P : Program} {s : Code} {Q : Exit → Act → World → Prop} {a : Act} {w : World} (h : s.wp P (OnlyN Q) a w) : s.wp P Q a w :=
  wp_mono h (fun e a' w' hq => by cases e <;> first | exact hq | exact hq.elim)
theorem onlyN_normal {Q : Exit → Act → World → Prop} {a : Act} {w : World} (h : Q .normal a w) : OnlyN Q .normal a w := h
section
attribute [local go_sem] Oper.semAt_some
theorem header_told {w : World} {A : Option Addr} {c : Nat} {l : List Int} (hr : RowOk w A c l) (p : Nat) (hp : p ≤ 8 * l.length) (k : Nat) (hk : 8 * l.length < k) :
    Calls Tryz.prog 35 #[.agg #[.slice A l.length c, .int .i64 (NN l)], .int .i64 (p : Int)] w fun e w' => HToldR w e w' (headerM l k p) := by
  have HR := Ak hr; have HP := Ak hp; have HK := Ak hk; have huR := Tryz.underlying115; have huB := Tryz.underlying43; have hmf : ∀ (fn : Fn) (first cap : Array Value) (w : World), (Instr.makeFunc fn first cap).run Tryz.prog w = .ok (.func fn first cap) w := fun _ _ _ _ => rfl; have hlen := hr.len; have HCK := Ak (show bits_Check.f 40 l (NN l) = some 0 from by rw [check_eq (by omega) hr.byt (by omega) (by unfold NN; omega) (by unfold NN; omega), okR_whole hr.byt, if_pos rfl]); have q0 := eq_false (show ¬ (p : Int) < 0 by omega); have q0b := decide_eq_false (show ¬ (p : Int) < 0 by omega); have q1 := eq_false (show ¬ (NN l) < (p : Int) by unfold NN; omega); have q1b := decide_eq_false (show ¬ (NN l) < (p : Int) by unfold NN; omega); have q1c := eq_false (show ¬ 8 * (l.length : Int) < (p : Int) by omega); obtain ⟨R, hR⟩ : ∃ R, headerM l k p = R := ⟨_, rfl⟩; rw [hR]; have HRR := Ak hR; clear hr hp hk hR hlen
  go_enter_defers Tryz.func35, Tryz.ntmps35
  go_upto_region 5 with (first | ((with_reducible refine gate_dst (N := 2) rfl ?_); refine box_event ?hg (N := 2) ?hd (cs := #[.slice A l.length c, .int .i64 (NN l)]) (t := 43) ?hr ?_; (case hd => rfl); (case hg => rfl); (case hr => (go_simp; done)); intro gb hg w2 hbox hb; have HB := Ak hb; have Bgb := Ak hbox; have Ggb := Ak (show w.heap.size ≤ gb from by rw [hg]; exact Nat.le_refl _); clear hg hbox hb) | ((with_reducible refine gate_dst (N := 4) rfl ?_); refine box_event ?hg (N := 4) ?hd (cs := #[.slice none 0 0]) (t := 68) ?hr ?_; (case hd => rfl); (case hg => rfl); (case hr => (go_simp; done)); intro g4 hg w4 hbox hb; have hb2 := below_then HB.out HB.out.size hb; have Bgb_ := Ak (blk_below Bgb.out hb); have Bg4 := Ak hbox; have Gg4 := Ak (show gb < g4 from by rw [hg]; exact blk_lt Bgb.out); clear HB Bgb hg hbox hb; have HB := Ak hb2; clear hb2; have Bgb := Bgb_; clear Bgb_) | ((with_reducible refine gate_dst (N := 5) rfl ?_); refine box_event ?hg (N := 5) ?hd (cs := #[.slice none 0 0]) (t := 68) ?hr ?_; (case hd => rfl); (case hg => rfl); (case hr => (go_simp; done)); intro g5 hg w5 hbox hb; have hb2 := below_then HB.out HB.out.size hb; have Bgb_ := Ak (blk_below Bgb.out hb); have Bg4_ := Ak (blk_below Bg4.out hb); have Bg5 := Ak hbox; have Gg5 := Ak (show g4 < g5 from by rw [hg]; exact blk_lt Bg4.out); clear HB Bgb Bg4 hg hbox hb; have HB := Ak hb2; clear hb2; have Bgb := Bgb_; clear Bgb_; have Bg4 := Bg4_; clear Bg4_) | ((with_reducible refine gate_dst (N := 6) rfl ?_); refine box_event ?hg (N := 6) ?hd (cs := #[.int .i64 0]) (t := 3) ?hr ?_; (case hd => rfl); (case hg => rfl); (case hr => (go_simp; done)); intro g6 hg w6 hbox hb; have hb2 := below_then HB.out HB.out.size hb; have Bgb_ := Ak (blk_below Bgb.out hb); have Bg4_ := Ak (blk_below Bg4.out hb); have Bg5_ := Ak (blk_below Bg5.out hb); have Bg6 := Ak hbox; have Gg6 := Ak (show g5 < g6 from by rw [hg]; exact blk_lt Bg5.out); clear HB Bgb Bg4 Bg5 hg hbox hb; have HB := Ak hb2; clear hb2; have Bgb := Bgb_; clear Bgb_; have Bg4 := Bg4_; clear Bg4_; have Bg5 := Bg5_; clear Bg5_) | ((with_reducible refine gate_dst (N := 7) rfl ?_); refine box_event ?hg (N := 7) ?hd (cs := #[.int .i64 0]) (t := 24) ?hr ?_; (case hd => rfl); (case hg => rfl); (case hr => (go_simp; done)); intro g7 hg w7 hbox hb; have hb2 := below_then HB.out HB.out.size hb; have Bgb_ := Ak (blk_below Bgb.out hb); have Bg4_ := Ak (blk_below Bg4.out hb); have Bg5_ := Ak (blk_below Bg5.out hb); have Bg6_ := Ak (blk_below Bg6.out hb); have Bg7 := Ak hbox; have Gg7 := Ak (show g6 < g7 from by rw [hg]; exact blk_lt Bg6.out); clear HB Bgb Bg4 Bg5 Bg6 hg hbox hb; have HB := Ak hb2; clear hb2; have Bgb := Bgb_; clear Bgb_; have Bg4 := Bg4_; clear Bg4_; have Bg5 := Bg5_; clear Bg5_; have Bg6 := Bg6_; clear Bg6_; have hcb0 := ((blk_cell Bgb.out 0).trans rfl : w7.cell? ⟨gb, 0, none⟩ = some (.slice A l.length c)); have hcb1 := ((blk_cell Bgb.out 1).trans rfl : w7.cell? ⟨gb, 1, none⟩ = some (.int .i64 (NN l)))) | (go_at_call 42; refine (bits_Check.calls 40 A c l (NN l) 0 _ (Kd.C_below HR.out.C HB.out) HR.out.cap HCK.out).mono ?_; rintro e w8 ⟨rfl, hb⟩; have hb2 := below_then HB.out HB.out.size hb; have Bgb_ := Ak (blk_below Bgb.out hb); have Bg4_ := Ak (blk_below Bg4.out hb); have Bg5_ := Ak (blk_below Bg5.out hb); have Bg6_ := Ak (blk_below Bg6.out hb); have Bg7_ := Ak (blk_below Bg7.out hb); clear HB Bgb Bg4 Bg5 Bg6 Bg7 hb; have HB := Ak hb2; clear hb2; have Bgb := Bgb_; clear Bgb_; have Bg4 := Bg4_; clear Bg4_; have Bg5 := Bg5_; clear Bg5_; have Bg6 := Bg6_; clear Bg6_; have Bg7 := Bg7_; clear Bg7_; have hcb0 := ((blk_cell Bgb.out 0).trans rfl : w8.cell? ⟨gb, 0, none⟩ = some (.slice A l.length c)); have hcb1 := ((blk_cell Bgb.out 1).trans rfl : w8.cell? ⟨gb, 1, none⟩ = some (.int .i64 (NN l)))) | ((with_reducible refine gate_dst (N := 30) rfl ?_); refine box_event ?hg (N := 30) ?hd (cs := #[.slice A l.length c, .int .i64 (NN l), .int .i64 (p : Int)]) (t := 115) ?hr ?_; (case hd => rfl); (case hg => rfl); (case hr => (go_simp; done)); intro g hg w9 hbox hb; have AT := Ak (show HRdrAt w8 w9 g A c l (NN l) (p : Int) from ⟨hb, by rw [hg]; exact Nat.le_refl _, hbox⟩); have HB9 := Ak hb; clear hg hbox hb))
  clear hcb0 hcb1; have HR8 := Ak (show RowOk w8 A c l from ⟨Kd.C_below HR.out.C HB.out, HR.out.cap, HR.out.byt, HR.out.len⟩); have HX := Ak AT.out; have hRR := HRR.out; clear HRR HCK; unfold headerM at hRR
  cases h1 : bitsM l p 5 with
  | error er =>
    rw [h1] at hRR; have HRR := Ak hRR.symm; have HE0 := Ak (bitsM_bad h1); have H1 := Ak h1; clear hRR h1
    go_wp2_with (go_at_call 48; have hcc := hbits_told HR8.out _ g _ 5 5 rfl AT.out HP.out (by decide); rw [H1.out] at hcc; refine hcc.mono ?_; clear hcc; rintro e w' ⟨rfl, hb⟩; have HF := Ak (AT.out.below.trans hb); clear hb)
    refine leaves_cons (f := 47) (args := #[.pointer (some ⟨g4, 0, none⟩), .pointer (some ⟨g5, 0, none⟩), .pointer (some ⟨g6, 0, none⟩), .pointer (some ⟨g7, 0, none⟩)]) (by simp) (by simp [go_sem]) ?_; refine (hcatch2 w.heap.size g4 g5 g6 g7 _ _ _ _ _ _ _ _ er [] _ (by have h1 := Ggb.out; have h2 := Gg4.out; omega) Gg5.out Gg6.out Gg7.out (blk_below Bg4.out HF.out) (blk_below Bg5.out HF.out) (blk_below Bg6.out HF.out) (blk_below Bg7.out HF.out)).mono ?_; rintro e u' w'' ⟨rfl, rfl, hc4, hc5, hc6, hc7, hbw⟩; have HBF := Ak (HB.out.trans ((HF.out.mono HB.out.size).trans hbw)); clear hbw
    simp [Leaves, settle, results, Tryz.results35, go_sem, hc4, hc5, hc6, hc7]
    rw [HRR.out]; exact ⟨rfl, HBF.out, HE0.out⟩
  | ok r1 => ?_
  obtain ⟨x, p1⟩ := r1; rw [h1] at hRR; dsimp only at hRR; obtain ⟨hxe, hxp, hxb⟩ := bitsM_ok h1; obtain ⟨xn, hxn⟩ : ∃ n : Nat, x = (n : Int) := ⟨x.toNat, by have h1_ := getV_range l p 5; rw [hxe]; omega⟩; have hxl : xn < 32 := (by have h1_ := getV_range l p 5; have h2_ : (2 : Int) ^ 5 = 32 := (by decide); rw [← hxe, hxn] at h1_; omega); subst hxn; clear hxe hxp hxb; have H1 := Ak h1; obtain ⟨N1, hN1⟩ : ∃ N1, N1 = 257 + xn := ⟨_, rfl⟩; have hw1 : wrap64 (257 + (xn : Int)) = (N1 : Int) := (by rw [wrap64_id (by omega) (by omega)]; omega); have HXL := Ak hxl; clear h1 hxl
  cases h2 : bitsM l p1 5 with
  | error er =>
    rw [h2] at hRR; have HRR := Ak hRR.symm; have HE0 := Ak (bitsM_bad h2); have H2 := Ak h2; clear hRR h2
    go_wp2_with (first | (go_at_call 48; have hcc := hbits_told HR8.out _ g _ 5 5 rfl AT.out HP.out (by decide); rw [H1.out] at hcc; refine hcc.mono ?_; clear hcc; rintro e w' ⟨rfl, hq_, hat_, hm_⟩; clear AT HP; have AT := Ak hat_; have HP := Ak hq_; clear hat_ hq_ hm_ H1) | (go_at_call 48; have hcc := hbits_told HR8.out _ g _ 5 5 rfl AT.out HP.out (by decide); rw [H2.out] at hcc; refine hcc.mono ?_; clear hcc; rintro e w' ⟨rfl, hb⟩; have HF := Ak (AT.out.below.trans hb); clear hb))
    refine leaves_cons (f := 47) (args := #[.pointer (some ⟨g4, 0, none⟩), .pointer (some ⟨g5, 0, none⟩), .pointer (some ⟨g6, 0, none⟩), .pointer (some ⟨g7, 0, none⟩)]) (by simp) (by simp [go_sem]) ?_; refine (hcatch2 w.heap.size g4 g5 g6 g7 _ _ _ _ _ _ _ _ er [] _ (by have h1 := Ggb.out; have h2 := Gg4.out; omega) Gg5.out Gg6.out Gg7.out (blk_below Bg4.out HF.out) (blk_below Bg5.out HF.out) (blk_below Bg6.out HF.out) (blk_below Bg7.out HF.out)).mono ?_; rintro e u' w'' ⟨rfl, rfl, hc4, hc5, hc6, hc7, hbw⟩; have HBF := Ak (HB.out.trans ((HF.out.mono HB.out.size).trans hbw)); clear hbw
    simp [Leaves, settle, results, Tryz.results35, go_sem, hc4, hc5, hc6, hc7]
    rw [HRR.out]; exact ⟨rfl, HBF.out, HE0.out⟩
  | ok r2 => ?_
  obtain ⟨y, p2⟩ := r2; rw [h2] at hRR; dsimp only at hRR; obtain ⟨hxe, hxp, hxb⟩ := bitsM_ok h2; obtain ⟨yn, hxn⟩ : ∃ n : Nat, y = (n : Int) := ⟨y.toNat, by have h1_ := getV_range l p1 5; rw [hxe]; omega⟩; have hxl : yn < 32 := (by have h1_ := getV_range l p1 5; have h2_ : (2 : Int) ^ 5 = 32 := (by decide); rw [← hxe, hxn] at h1_; omega); subst hxn; clear hxe hxp hxb; have H2 := Ak h2; obtain ⟨N2, hN2⟩ : ∃ N2, N2 = 1 + yn := ⟨_, rfl⟩; have hw2 : wrap64 (1 + (yn : Int)) = (N2 : Int) := (by rw [wrap64_id (by omega) (by omega)]; omega); clear h2; rw [Int.toNat_natCast, Int.toNat_natCast, ← hN1, ← hN2] at hRR; have HN0 := Ak (show 257 ≤ N1 ∧ 1 ≤ N2 by omega)
  by_cases hA : N1 > 286
  · rw [if_pos (.inl (by omega))] at hRR; have HRR := Ak hRR.symm; have HE0 := Ak (show (3 : Int) ≠ 0 by decide); have t0 := eq_true (show (286 : Int) < (N1 : Int) by omega); have t0b := decide_eq_true (show (286 : Int) < (N1 : Int) by omega); clear hRR hA hN1 hN2 hxl
    go_wp2_with (first | (go_at_call 48; have hcc := hbits_told HR8.out _ g _ 5 5 rfl AT.out HP.out (by decide); rw [H1.out] at hcc; refine hcc.mono ?_; clear hcc; rintro e w' ⟨rfl, hq_, hat_, hm_⟩; clear AT HP; have AT := Ak hat_; have HP := Ak hq_; clear hat_ hq_ hm_ H1) | (go_at_call 48; have hcc := hbits_told HR8.out _ g _ 5 5 rfl AT.out HP.out (by decide); rw [H2.out] at hcc; refine hcc.mono ?_; clear hcc; rintro e w' ⟨rfl, hq_, hat_, hm_⟩; clear AT HP; have AT := Ak hat_; have HP := Ak hq_; clear hat_ hq_ hm_ H2) | (go_at_call 49; refine (hmust_else _ 3 (by decide) _).mono ?_; rintro e w' ⟨rfl, hb⟩; have HF := Ak (AT.out.below.trans (hb.mono AT.out.below.size)); clear hb))
    refine leaves_cons (f := 47) (args := #[.pointer (some ⟨g4, 0, none⟩), .pointer (some ⟨g5, 0, none⟩), .pointer (some ⟨g6, 0, none⟩), .pointer (some ⟨g7, 0, none⟩)]) (by simp) (by simp [go_sem]) ?_; refine (hcatch2 w.heap.size g4 g5 g6 g7 _ _ _ _ _ _ _ _ 3 [] _ (by have h1 := Ggb.out; have h2 := Gg4.out; omega) Gg5.out Gg6.out Gg7.out (blk_below Bg4.out HF.out) (blk_below Bg5.out HF.out) (blk_below Bg6.out HF.out) (blk_below Bg7.out HF.out)).mono ?_; rintro e u' w'' ⟨rfl, rfl, hc4, hc5, hc6, hc7, hbw⟩; have HBF := Ak (HB.out.trans ((HF.out.mono HB.out.size).trans hbw)); clear hbw
    simp [Leaves, settle, results, Tryz.results35, go_sem, hc4, hc5, hc6, hc7]
    rw [HRR.out]; exact ⟨rfl, HBF.out, HE0.out⟩
  have t0 := eq_false (show ¬ (286 : Int) < (N1 : Int) by omega); have t0b := decide_eq_false (show ¬ (286 : Int) < (N1 : Int) by omega)
  by_cases hB : N2 > 30
  · rw [if_pos (.inr (by omega))] at hRR; have HRR := Ak hRR.symm; have HE0 := Ak (show (3 : Int) ≠ 0 by decide); have t1 := eq_true (show (30 : Int) < (N2 : Int) by omega); have t1b := decide_eq_true (show (30 : Int) < (N2 : Int) by omega); clear hRR hA hB hN1 hN2 hxl
    go_wp2_with (first | (go_at_call 48; have hcc := hbits_told HR8.out _ g _ 5 5 rfl AT.out HP.out (by decide); rw [H1.out] at hcc; refine hcc.mono ?_; clear hcc; rintro e w' ⟨rfl, hq_, hat_, hm_⟩; clear AT HP; have AT := Ak hat_; have HP := Ak hq_; clear hat_ hq_ hm_ H1) | (go_at_call 48; have hcc := hbits_told HR8.out _ g _ 5 5 rfl AT.out HP.out (by decide); rw [H2.out] at hcc; refine hcc.mono ?_; clear hcc; rintro e w' ⟨rfl, hq_, hat_, hm_⟩; clear AT HP; have AT := Ak hat_; have HP := Ak hq_; clear hat_ hq_ hm_ H2) | (go_at_call 49; refine (hmust_else _ 3 (by decide) _).mono ?_; rintro e w' ⟨rfl, hb⟩; have HF := Ak (AT.out.below.trans (hb.mono AT.out.below.size)); clear hb))
    refine leaves_cons (f := 47) (args := #[.pointer (some ⟨g4, 0, none⟩), .pointer (some ⟨g5, 0, none⟩), .pointer (some ⟨g6, 0, none⟩), .pointer (some ⟨g7, 0, none⟩)]) (by simp) (by simp [go_sem]) ?_; refine (hcatch2 w.heap.size g4 g5 g6 g7 _ _ _ _ _ _ _ _ 3 [] _ (by have h1 := Ggb.out; have h2 := Gg4.out; omega) Gg5.out Gg6.out Gg7.out (blk_below Bg4.out HF.out) (blk_below Bg5.out HF.out) (blk_below Bg6.out HF.out) (blk_below Bg7.out HF.out)).mono ?_; rintro e u' w'' ⟨rfl, rfl, hc4, hc5, hc6, hc7, hbw⟩; have HBF := Ak (HB.out.trans ((HF.out.mono HB.out.size).trans hbw)); clear hbw
    simp [Leaves, settle, results, Tryz.results35, go_sem, hc4, hc5, hc6, hc7]
    rw [HRR.out]; exact ⟨rfl, HBF.out, HE0.out⟩
  rw [if_neg (by omega)] at hRR; have t1 := eq_false (show ¬ (30 : Int) < (N2 : Int) by omega); have t1b := decide_eq_false (show ¬ (30 : Int) < (N2 : Int) by omega); have hx1 := HXL.out; obtain ⟨NT, hNT⟩ : ∃ NT, NT = N1 + N2 := ⟨_, rfl⟩; have hwt : wrap64 ((N1 : Int) + (N2 : Int)) = (NT : Int) := (by rw [wrap64_id (by omega) (by omega)]; omega); rw [← hNT] at hRR; have HNT := Ak (show NT ≤ 1000 by omega); have HNE := Ak hNT; clear hA hB hxl hx1
  cases h3 : bitsM l p2 4 with
  | error er =>
    rw [h3] at hRR; have HRR := Ak hRR.symm; have HE0 := Ak (bitsM_bad h3); have H3 := Ak h3; clear hRR h3 hN1 hN2 hNT
    go_wp2_with (first | (go_at_call 48; have hcc := hbits_told HR8.out _ g _ 5 5 rfl AT.out HP.out (by decide); rw [H1.out] at hcc; refine hcc.mono ?_; clear hcc; rintro e w' ⟨rfl, hq_, hat_, hm_⟩; clear AT HP; have AT := Ak hat_; have HP := Ak hq_; clear hat_ hq_ hm_ H1) | (go_at_call 48; have hcc := hbits_told HR8.out _ g _ 5 5 rfl AT.out HP.out (by decide); rw [H2.out] at hcc; refine hcc.mono ?_; clear hcc; rintro e w' ⟨rfl, hq_, hat_, hm_⟩; clear AT HP; have AT := Ak hat_; have HP := Ak hq_; clear hat_ hq_ hm_ H2) | (go_at_call 48; have hcc := hbits_told HR8.out _ g _ 4 4 rfl AT.out HP.out (by decide); rw [H3.out] at hcc; refine hcc.mono ?_; clear hcc; rintro e w' ⟨rfl, hb⟩; have HF := Ak (AT.out.below.trans hb); clear hb))
    refine leaves_cons (f := 47) (args := #[.pointer (some ⟨g4, 0, none⟩), .pointer (some ⟨g5, 0, none⟩), .pointer (some ⟨g6, 0, none⟩), .pointer (some ⟨g7, 0, none⟩)]) (by simp) (by simp [go_sem]) ?_; refine (hcatch2 w.heap.size g4 g5 g6 g7 _ _ _ _ _ _ _ _ er [] _ (by have h1 := Ggb.out; have h2 := Gg4.out; omega) Gg5.out Gg6.out Gg7.out (blk_below Bg4.out HF.out) (blk_below Bg5.out HF.out) (blk_below Bg6.out HF.out) (blk_below Bg7.out HF.out)).mono ?_; rintro e u' w'' ⟨rfl, rfl, hc4, hc5, hc6, hc7, hbw⟩; have HBF := Ak (HB.out.trans ((HF.out.mono HB.out.size).trans hbw)); clear hbw
    simp [Leaves, settle, results, Tryz.results35, go_sem, hc4, hc5, hc6, hc7]
    rw [HRR.out]; exact ⟨rfl, HBF.out, HE0.out⟩
  | ok r3 => ?_
  obtain ⟨q, p3⟩ := r3; rw [h3] at hRR; dsimp only at hRR; obtain ⟨hxe, hxp, hxb⟩ := bitsM_ok h3; obtain ⟨qn, hxn⟩ : ∃ n : Nat, q = (n : Int) := ⟨q.toNat, by have h1_ := getV_range l p2 4; rw [hxe]; omega⟩; have hxl : qn < 16 := (by have h1_ := getV_range l p2 4; have h2_ : (2 : Int) ^ 4 = 16 := (by decide); rw [← hxe, hxn] at h1_; omega); subst hxn; clear hxe hxp hxb; have H3 := Ak h3; obtain ⟨M, hM⟩ : ∃ M, M = 4 + qn := ⟨_, rfl⟩; have hw3 : wrap64 (4 + (qn : Int)) = (M : Int) := (by rw [wrap64_id (by omega) (by omega)]; omega); rw [Int.toNat_natCast, ← hM] at hRR; have HM := Ak (show M ≤ 19 from by rw [hM]; exact Nat.add_le_add_left (Nat.le_of_lt_succ hxl) 4); clear h3 hM hxl
  cases h4 : codesM l M 0 p3 (List.replicate 19 0) with
  | error er =>
    rw [h4] at hRR; have HRR := Ak hRR.symm; have HE0 := Ak (newS_bad h4); have HC := Ak h4; clear hRR h4 hN1 hN2 hNT
    go_wp2_with (first | (go_at_call 48; have hcc := hbits_told HR8.out _ g _ 5 5 rfl AT.out HP.out (by decide); rw [H1.out] at hcc; refine hcc.mono ?_; clear hcc; rintro e w' ⟨rfl, hq_, hat_, hm_⟩; clear AT HP; have AT := Ak hat_; have HP := Ak hq_; clear hat_ hq_ hm_ H1) | (go_at_call 48; have hcc := hbits_told HR8.out _ g _ 5 5 rfl AT.out HP.out (by decide); rw [H2.out] at hcc; refine hcc.mono ?_; clear hcc; rintro e w' ⟨rfl, hq_, hat_, hm_⟩; clear AT HP; have AT := Ak hat_; have HP := Ak hq_; clear hat_ hq_ hm_ H2) | (go_at_call 48; have hcc := hbits_told HR8.out _ g _ 4 4 rfl AT.out HP.out (by decide); rw [H3.out] at hcc; refine hcc.mono ?_; clear hcc; rintro e w' ⟨rfl, hq_, hat_, hm_⟩; clear AT HP; have AT := Ak hat_; have HP := Ak hq_; clear hat_ hq_ hm_ H3) | (go_at_call 50; have hcc := codes_told HR8.out _ g _ M _ rfl HM.out AT.out HP.out; rw [HC.out] at hcc; refine hcc.mono ?_; clear hcc; rintro e w' ⟨rfl, hb⟩; have HF := Ak (AT.out.below.trans hb); clear hb))
    refine leaves_cons (f := 47) (args := #[.pointer (some ⟨g4, 0, none⟩), .pointer (some ⟨g5, 0, none⟩), .pointer (some ⟨g6, 0, none⟩), .pointer (some ⟨g7, 0, none⟩)]) (by simp) (by simp [go_sem]) ?_; refine (hcatch2 w.heap.size g4 g5 g6 g7 _ _ _ _ _ _ _ _ er [] _ (by have h1 := Ggb.out; have h2 := Gg4.out; omega) Gg5.out Gg6.out Gg7.out (blk_below Bg4.out HF.out) (blk_below Bg5.out HF.out) (blk_below Bg6.out HF.out) (blk_below Bg7.out HF.out)).mono ?_; rintro e u' w'' ⟨rfl, rfl, hc4, hc5, hc6, hc7, hbw⟩; have HBF := Ak (HB.out.trans ((HF.out.mono HB.out.size).trans hbw)); clear hbw
    simp [Leaves, settle, results, Tryz.results35, go_sem, hc4, hc5, hc6, hc7]
    rw [HRR.out]; exact ⟨rfl, HBF.out, HE0.out⟩
  | ok r4 => ?_
  obtain ⟨z, p4⟩ := r4; rw [h4] at hRR; dsimp only at hRR; have HC := Ak h4; clear h4
  cases h5 : lengthsM l z NT k p4 [] with
  | error er =>
    rw [h5] at hRR; have HRR := Ak hRR.symm; have HL := Ak h5; clear hRR h5 hN1 hN2 hNT
    go_wp2_with (first | (go_at_call 48; have hcc := hbits_told HR8.out _ g _ 5 5 rfl AT.out HP.out (by decide); rw [H1.out] at hcc; refine hcc.mono ?_; clear hcc; rintro e w' ⟨rfl, hq_, hat_, hm_⟩; clear AT HP; have AT := Ak hat_; have HP := Ak hq_; clear hat_ hq_ hm_ H1) | (go_at_call 48; have hcc := hbits_told HR8.out _ g _ 5 5 rfl AT.out HP.out (by decide); rw [H2.out] at hcc; refine hcc.mono ?_; clear hcc; rintro e w' ⟨rfl, hq_, hat_, hm_⟩; clear AT HP; have AT := Ak hat_; have HP := Ak hq_; clear hat_ hq_ hm_ H2) | (go_at_call 48; have hcc := hbits_told HR8.out _ g _ 4 4 rfl AT.out HP.out (by decide); rw [H3.out] at hcc; refine hcc.mono ?_; clear hcc; rintro e w' ⟨rfl, hq_, hat_, hm_⟩; clear AT HP; have AT := Ak hat_; have HP := Ak hq_; clear hat_ hq_ hm_ H3) | (go_at_call 50; have hcc := codes_told HR8.out _ g _ M _ rfl HM.out AT.out HP.out; rw [HC.out] at hcc; refine hcc.mono ?_; clear hcc; rintro e w' ⟨gt, rfl, hq_, hz_, ht_, hat_, hm_⟩; clear AT HP; have AT := Ak hat_; have HP := Ak hq_; have HT := Ak ht_; have HZ := Ak hz_; clear hat_ hq_ hz_ ht_ hm_) | (go_at_call 51; have hcc := lengths_told HR8.out _ g _ NT _ rfl HNT.out AT.out HP.out gt z (okl_new HZ.out) HT.out k (by have := HK.out; omega); rw [HL.out] at hcc; refine hcc.mono ?_; clear hcc; rintro e w' ⟨rfl, hb⟩; have HE0 := Ak (lengthsM_bad HR.out.byt HR.out.len (okl_new HZ.out) (by have := HK.out; omega) HP.out HL.out); have HF := Ak (AT.out.below.trans hb); clear hb))
    refine leaves_cons (f := 47) (args := #[.pointer (some ⟨g4, 0, none⟩), .pointer (some ⟨g5, 0, none⟩), .pointer (some ⟨g6, 0, none⟩), .pointer (some ⟨g7, 0, none⟩)]) (by simp) (by simp [go_sem]) ?_; refine (hcatch2 w.heap.size g4 g5 g6 g7 _ _ _ _ _ _ _ _ er [] _ (by have h1 := Ggb.out; have h2 := Gg4.out; omega) Gg5.out Gg6.out Gg7.out (blk_below Bg4.out HF.out) (blk_below Bg5.out HF.out) (blk_below Bg6.out HF.out) (blk_below Bg7.out HF.out)).mono ?_; rintro e u' w'' ⟨rfl, rfl, hc4, hc5, hc6, hc7, hbw⟩; have HBF := Ak (HB.out.trans ((HF.out.mono HB.out.size).trans hbw)); clear hbw
    simp [Leaves, settle, results, Tryz.results35, go_sem, hc4, hc5, hc6, hc7]
    rw [HRR.out]; exact ⟨rfl, HBF.out, HE0.out⟩
  | ok r5 => ?_
  obtain ⟨all, p5⟩ := r5; rw [h5] at hRR; dsimp only at hRR; have HRR := Ak hRR.symm; have HL := Ak h5; clear hRR h5 hN1 hN2 hNT
  go_upto_region 10 with (first | (go_at_call 48; have hcc := hbits_told HR8.out _ g _ 5 5 rfl AT.out HP.out (by decide); rw [H1.out] at hcc; refine hcc.mono ?_; clear hcc; rintro e w' ⟨rfl, hq_, hat_, hm_⟩; clear AT HP; have AT := Ak hat_; have HP := Ak hq_; clear hat_ hq_ hm_ H1) | (go_at_call 48; have hcc := hbits_told HR8.out _ g _ 5 5 rfl AT.out HP.out (by decide); rw [H2.out] at hcc; refine hcc.mono ?_; clear hcc; rintro e w' ⟨rfl, hq_, hat_, hm_⟩; clear AT HP; have AT := Ak hat_; have HP := Ak hq_; clear hat_ hq_ hm_ H2) | (go_at_call 48; have hcc := hbits_told HR8.out _ g _ 4 4 rfl AT.out HP.out (by decide); rw [H3.out] at hcc; refine hcc.mono ?_; clear hcc; rintro e w' ⟨rfl, hq_, hat_, hm_⟩; clear AT HP; have AT := Ak hat_; have HP := Ak hq_; clear hat_ hq_ hm_ H3) | (go_at_call 50; have hcc := codes_told HR8.out _ g _ M _ rfl HM.out AT.out HP.out; rw [HC.out] at hcc; refine hcc.mono ?_; clear hcc; rintro e w' ⟨gt, rfl, hq_, hz_, ht_, hat_, hm_⟩; clear AT HP; have AT := Ak hat_; have HP := Ak hq_; have HT := Ak ht_; have HZ := Ak hz_; clear hat_ hq_ hz_ ht_ hm_) | (go_at_call 51; have hcc := lengths_told HR8.out _ g _ NT _ rfl HNT.out AT.out HP.out gt z (okl_new HZ.out) HT.out k (by have := HK.out; omega); rw [HL.out] at hcc; refine hcc.mono ?_; clear hcc; rintro e wz ⟨v', rfl, ho_, hl_, hq_, hat_, hm_⟩; have GB := Ak (Nat.lt_of_lt_of_le (blk_lt Bg7.out) AT.out.below.size); obtain ⟨gl, cl, ev_, hgb_, hgl_, cells_, hcells_⟩ := Kd.R_form ho_ (by have h1 := HN0.out; have h2 := HNE.out; rw [hl_]; omega); rw [hl_] at ev_; subst ev_; have HO := Ak ho_; have HLN := Ak hl_; clear AT HP; have AT := Ak hat_; have HP := Ak hq_; clear hat_ hq_ hl_ ho_ hm_ hgb_ hgl_ hcells_))
  have hcl := (Kd.R_reads' HO.out).2.1; have hn0 := HN0.out; have hne := HNE.out; have s0 := eq_true (show 0 ≤ (N1 : Int) by omega); have s1 := eq_true (show (N1 : Int) ≤ (cl : Int) by omega); have s2 := eq_true (show (N1 : Int) ≤ (NT : Int) by omega); have s3 := eq_true (show (NT : Int) ≤ (cl : Int) by omega); have s1n := eq_true (show N1 ≤ cl by omega); have s2n := eq_true (show N1 ≤ NT by omega); have s3n := eq_true (show NT ≤ cl by omega); have s4 := eq_false (show ¬ cl = N1 by omega); have s4i := eq_false (show ¬ (cl : Int) = (N1 : Int) by omega); have hlb := AT.out.below; have F4 := Ak (blk_below Bg4.out AT.out.below); have F5 := Ak (blk_below Bg5.out AT.out.below); have F6 := Ak (blk_below Bg6.out AT.out.below); have F7 := Ak (blk_below Bg7.out AT.out.below); have HBZ := Ak (HB.out.trans (AT.out.below.mono HB.out.size)); have BG := Ak AT.out.blk; have GG := Ak (show g7 < g from Nat.lt_of_lt_of_le (blk_lt Bg7.out) AT.out.ge); clear hcl hn0 hne hlb AT HT Bgb Bg4 Bg5 Bg6 Bg7; have hb := below_drew (Below.refl wz.heap.size wz); replace F4 := Ak (blk_below F4.out hb); replace F5 := Ak (blk_below F5.out hb); replace F6 := Ak (blk_below F6.out hb); replace F7 := Ak (blk_below F7.out hb); replace BG := Ak (blk_below BG.out hb); replace HO := Ak (Kd.R_below HO.out hb); replace HBZ := Ak (HBZ.out.trans (hb.mono HBZ.out.size)); clear hb; refine wp_onlyN ?_; refine sq 15 (S := fun w' => w'.cell? ⟨g, 2, none⟩ = some (.int .i64 (p5 : Int))) (ds := [14]) ((blk_cell BG.out 2).trans rfl) fun hHeld => ?_; generalize wz.drew = wa at F4 F5 F6 F7 BG HO HBZ hHeld ⊢; refine pq 0 56 ?_; refine pq 1 57 ?_; refine pq 2 58 ?_; refine pq 3 59 ?_; refine pq 4 60 ?_; refine pq 5 61 ?_; refine pq 6 62 ?_; refine pq 7 63 ?_; refine pq 8 64 ?_; refine pq 9 65 ?_; refine tq 10 66 ?_ hHeld; refine one_ (i := 11) (N := none) #[true, true, true, true, true, true, true, true, true, true, true, true, false, false, false] rfl rfl (by kernel_rfl) (by decide) (fun K hK => ?_); have hz := ((blk_cell F4.out 0).trans rfl : wa.cell? ⟨g4, 0, none⟩ = some (.slice none 0 0)); have hf := blk_frozen F4.out 0; refine skip_ (w1 := ?_) (by rfl) rfl ?_ ?_; rotate_left
  · go_simp
    rfl
  clear hz hf; replace F4 := Ak (blk_set F4.out 0 (.slice (some ⟨gl, 0, none⟩) N1 N1)); replace F5 := Ak ((Below.heap_setCell wa ⟨g4, 0, none⟩ (.slice (some ⟨gl, 0, none⟩) N1 N1) g5 (by have h1 := Gg5.out; have h2 := Gg6.out; have h3 := Gg7.out; have h4 := GG.out; show g5 ≠ g4; omega)).trans F5.out); replace F6 := Ak ((Below.heap_setCell wa ⟨g4, 0, none⟩ (.slice (some ⟨gl, 0, none⟩) N1 N1) g6 (by have h1 := Gg5.out; have h2 := Gg6.out; have h3 := Gg7.out; have h4 := GG.out; show g6 ≠ g4; omega)).trans F6.out); replace F7 := Ak ((Below.heap_setCell wa ⟨g4, 0, none⟩ (.slice (some ⟨gl, 0, none⟩) N1 N1) g7 (by have h1 := Gg5.out; have h2 := Gg6.out; have h3 := Gg7.out; have h4 := GG.out; show g7 ≠ g4; omega)).trans F7.out); replace BG := Ak ((Below.heap_setCell wa ⟨g4, 0, none⟩ (.slice (some ⟨gl, 0, none⟩) N1 N1) g (by have h1 := Gg5.out; have h2 := Gg6.out; have h3 := Gg7.out; have h4 := GG.out; show g ≠ g4; omega)).trans BG.out); replace HO := Ak (R_store_old (g := g4) (j := 0) (u := (.slice (some ⟨gl, 0, none⟩) N1 N1)) HO.out (by have h1 := Gg5.out; have h2 := Gg6.out; have h3 := Gg7.out; have h4 := GB.out; omega)); replace HBZ := Ak (HBZ.out.setCell (p := ⟨g4, 0, none⟩) (by have h0 := Ggb.out; have h01 := Gg4.out; have h1 := Gg5.out; have h2 := Gg6.out; have h3 := Gg7.out; show w.heap.size ≤ g4; omega) (.slice (some ⟨gl, 0, none⟩) N1 N1)); generalize (wa.setCell ⟨g4, 0, none⟩ (.slice (some ⟨gl, 0, none⟩) N1 N1)) = wb at F4 F5 F6 F7 BG HO HBZ ⊢; refine hK.out _ _ ((blk_cell BG.out 2).trans rfl) (fun hHeld => ?_); clear hK K; refine one_ (i := 12) (N := none) #[true, true, true, true, true, true, true, true, true, true, true, true, true, false, false] rfl rfl (by kernel_rfl) (by decide) (fun K hK => ?_); have hz := ((blk_cell F5.out 0).trans rfl : wb.cell? ⟨g5, 0, none⟩ = some (.slice none 0 0)); have hf := blk_frozen F5.out 0; refine skip_ (w1 := ?_) (by rfl) rfl ?_ ?_; rotate_left
  · go_simp
    rfl
  clear hz hf; replace F4 := Ak ((Below.heap_setCell wb ⟨g5, 0, none⟩ (.slice (some ⟨gl, N1, none⟩) (NT - N1) (cl - N1)) g4 (by have h1 := Gg5.out; have h2 := Gg6.out; have h3 := Gg7.out; have h4 := GG.out; show g4 ≠ g5; omega)).trans F4.out); replace F5 := Ak (blk_set F5.out 0 (.slice (some ⟨gl, N1, none⟩) (NT - N1) (cl - N1))); replace F6 := Ak ((Below.heap_setCell wb ⟨g5, 0, none⟩ (.slice (some ⟨gl, N1, none⟩) (NT - N1) (cl - N1)) g6 (by have h1 := Gg5.out; have h2 := Gg6.out; have h3 := Gg7.out; have h4 := GG.out; show g6 ≠ g5; omega)).trans F6.out); replace F7 := Ak ((Below.heap_setCell wb ⟨g5, 0, none⟩ (.slice (some ⟨gl, N1, none⟩) (NT - N1) (cl - N1)) g7 (by have h1 := Gg5.out; have h2 := Gg6.out; have h3 := Gg7.out; have h4 := GG.out; show g7 ≠ g5; omega)).trans F7.out); replace BG := Ak ((Below.heap_setCell wb ⟨g5, 0, none⟩ (.slice (some ⟨gl, N1, none⟩) (NT - N1) (cl - N1)) g (by have h1 := Gg5.out; have h2 := Gg6.out; have h3 := Gg7.out; have h4 := GG.out; show g ≠ g5; omega)).trans BG.out); replace HO := Ak (R_store_old (g := g5) (j := 0) (u := (.slice (some ⟨gl, N1, none⟩) (NT - N1) (cl - N1))) HO.out (by have h1 := Gg5.out; have h2 := Gg6.out; have h3 := Gg7.out; have h4 := GB.out; omega)); replace HBZ := Ak (HBZ.out.setCell (p := ⟨g5, 0, none⟩) (by have h0 := Ggb.out; have h01 := Gg4.out; have h1 := Gg5.out; have h2 := Gg6.out; have h3 := Gg7.out; show w.heap.size ≤ g5; omega) (.slice (some ⟨gl, N1, none⟩) (NT - N1) (cl - N1))); generalize (wb.setCell ⟨g5, 0, none⟩ (.slice (some ⟨gl, N1, none⟩) (NT - N1) (cl - N1))) = wc at F4 F5 F6 F7 BG HO HBZ ⊢; refine hK.out _ _ ((blk_cell BG.out 2).trans rfl) (fun hHeld => ?_); clear hK K; refine one_ (i := 13) (N := none) #[true, true, true, true, true, true, true, true, true, true, true, true, true, true, false] rfl rfl (by kernel_rfl) (by decide) (fun K hK => ?_); have hz := ((blk_cell F6.out 0).trans rfl : wc.cell? ⟨g6, 0, none⟩ = some (.int .i64 0)); have hf := blk_frozen F6.out 0; refine skip_ (w1 := ?_) (by rfl) rfl ?_ ?_; rotate_left
  · go_simp
    rfl
  clear hz hf; replace F4 := Ak ((Below.heap_setCell wc ⟨g6, 0, none⟩ (.int .i64 (p5 : Int)) g4 (by have h1 := Gg5.out; have h2 := Gg6.out; have h3 := Gg7.out; have h4 := GG.out; show g4 ≠ g6; omega)).trans F4.out); replace F5 := Ak ((Below.heap_setCell wc ⟨g6, 0, none⟩ (.int .i64 (p5 : Int)) g5 (by have h1 := Gg5.out; have h2 := Gg6.out; have h3 := Gg7.out; have h4 := GG.out; show g5 ≠ g6; omega)).trans F5.out); replace F6 := Ak (blk_set F6.out 0 (.int .i64 (p5 : Int))); replace F7 := Ak ((Below.heap_setCell wc ⟨g6, 0, none⟩ (.int .i64 (p5 : Int)) g7 (by have h1 := Gg5.out; have h2 := Gg6.out; have h3 := Gg7.out; have h4 := GG.out; show g7 ≠ g6; omega)).trans F7.out); replace BG := Ak ((Below.heap_setCell wc ⟨g6, 0, none⟩ (.int .i64 (p5 : Int)) g (by have h1 := Gg5.out; have h2 := Gg6.out; have h3 := Gg7.out; have h4 := GG.out; show g ≠ g6; omega)).trans BG.out); replace HO := Ak (R_store_old (g := g6) (j := 0) (u := (.int .i64 (p5 : Int))) HO.out (by have h1 := Gg5.out; have h2 := Gg6.out; have h3 := Gg7.out; have h4 := GB.out; omega)); replace HBZ := Ak (HBZ.out.setCell (p := ⟨g6, 0, none⟩) (by have h0 := Ggb.out; have h01 := Gg4.out; have h1 := Gg5.out; have h2 := Gg6.out; have h3 := Gg7.out; show w.heap.size ≤ g6; omega) (.int .i64 (p5 : Int))); generalize (wc.setCell ⟨g6, 0, none⟩ (.int .i64 (p5 : Int))) = wd at F4 F5 F6 F7 BG HO HBZ ⊢; refine hK.out _ _ ((blk_cell BG.out 2).trans rfl) (fun hHeld => ?_); clear hK K; refine lq 14 fun K hK => ?_; have hz := ((blk_cell F7.out 0).trans rfl : wd.cell? ⟨g7, 0, none⟩ = some (.int .i64 0)); have hf := blk_frozen F7.out 0; refine skip_ (w1 := ?_) (by rfl) rfl ?_ ?_; rotate_left
  · go_simp
    rfl
  clear hz hf; replace F4 := Ak ((Below.heap_setCell wd ⟨g7, 0, none⟩ (.int .i64 0) g4 (by have h1 := Gg5.out; have h2 := Gg6.out; have h3 := Gg7.out; have h4 := GG.out; show g4 ≠ g7; omega)).trans F4.out); replace F5 := Ak ((Below.heap_setCell wd ⟨g7, 0, none⟩ (.int .i64 0) g5 (by have h1 := Gg5.out; have h2 := Gg6.out; have h3 := Gg7.out; have h4 := GG.out; show g5 ≠ g7; omega)).trans F5.out); replace F6 := Ak ((Below.heap_setCell wd ⟨g7, 0, none⟩ (.int .i64 0) g6 (by have h1 := Gg5.out; have h2 := Gg6.out; have h3 := Gg7.out; have h4 := GG.out; show g6 ≠ g7; omega)).trans F6.out); replace F7 := Ak (blk_set F7.out 0 (.int .i64 0)); replace BG := Ak ((Below.heap_setCell wd ⟨g7, 0, none⟩ (.int .i64 0) g (by have h1 := Gg5.out; have h2 := Gg6.out; have h3 := Gg7.out; have h4 := GG.out; show g ≠ g7; omega)).trans BG.out); replace HO := Ak (R_store_old (g := g7) (j := 0) (u := (.int .i64 0)) HO.out (by have h1 := Gg5.out; have h2 := Gg6.out; have h3 := Gg7.out; have h4 := GB.out; omega)); replace HBZ := Ak (HBZ.out.setCell (p := ⟨g7, 0, none⟩) (by have h0 := Ggb.out; have h01 := Gg4.out; have h1 := Gg5.out; have h2 := Gg6.out; have h3 := Gg7.out; show w.heap.size ≤ g7; omega) (.int .i64 0)); generalize (wd.setCell ⟨g7, 0, none⟩ (.int .i64 0)) = we at F4 F5 F6 F7 BG HO HBZ ⊢; refine hK.out _ _ ?_; clear hK K; refine dq ?_; refine onlyN_normal ?_; go_wp2; refine leaves_cons (f := 47) (args := #[.pointer (some ⟨g4, 0, none⟩), .pointer (some ⟨g5, 0, none⟩), .pointer (some ⟨g6, 0, none⟩), .pointer (some ⟨g7, 0, none⟩)]) (by simp) (by simp [go_sem]) ?_; refine (hidle g4 g5 g6 g7 _).mono ?_; rintro e u' w'' ⟨rfl, rfl, rfl⟩; have hc4 := ((blk_cell F4.out 0).trans rfl : w''.cell? ⟨g4, 0, none⟩ = some (.slice (some ⟨gl, 0, none⟩) N1 N1)); have hc5 := ((blk_cell F5.out 0).trans rfl : w''.cell? ⟨g5, 0, none⟩ = some (.slice (some ⟨gl, N1, none⟩) (NT - N1) (cl - N1))); have hc6 := ((blk_cell F6.out 0).trans rfl : w''.cell? ⟨g6, 0, none⟩ = some (.int .i64 (p5 : Int))); have hc7 := ((blk_cell F7.out 0).trans rfl : w''.cell? ⟨g7, 0, none⟩ = some (.int .i64 0))
  simp [Leaves, settle, results, Tryz.results35, go_sem, hc4, hc5, hc6, hc7]
  rw [HRR.out]; have hl := HLN.out; have hn := HNE.out
  have l1 : (all.take N1).length = N1 := by rw [List.length_take]; omega
  have l2 : (all.drop N1).length = NT - N1 := by rw [List.length_drop, hl]
  have hC := (Kd.R_reads' HO.out).2.2; refine ⟨some ⟨gl, 0, none⟩, N1, some ⟨gl, N1, none⟩, cl - N1, by rw [l1, l2], ⟨Kd.C_take hC (by omega), fun ad e => by injection e with e; subst e; exact Kd.R_typed HO.out gl rfl⟩, ⟨?_, fun ad e => by injection e with e; subst e; exact Kd.R_typed HO.out gl rfl⟩, HBZ.out⟩; have hcc := (Kd.R_reads' HO.out).2.1; have hd := Kd.C_drop (m := N1) (c := cl) hC (by omega) (by omega); have hn0 := HN0.out; rw [if_neg (show ¬ cl = N1 by omega)] at hd
  have e : Option.map (fun x : Addr => x.add (N1 * (Kd.int .i64).sz)) (some ⟨gl, 0, none⟩) = some ⟨gl, N1, none⟩ := by show some (Addr.add ⟨gl, 0, none⟩ (N1 * 1)) = _; simp [Addr.add]; omega
  rw [← e]; exact hd
end
end Go.Proofs.YtgflkkjhckcipaaGreatDoor.Pr

