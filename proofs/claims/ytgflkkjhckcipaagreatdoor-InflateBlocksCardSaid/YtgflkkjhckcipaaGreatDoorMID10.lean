-- Texts by hand and by programs of this session, joined (wip/tool/merge.py).
import Derived.Shelf.Abstract
import Derived.Shelf.RegionOpen
import Derived.OwnWalkIn
import Derived.TacticsInMore
import Derived.LoopNIn
import Derived.LoopIn
import Derived.Test.YtgflkkjhckcipaaGreatDoorMID9
import Derived.Laws.BitsAllLaws
-- YtgflkkjhckcipaaGreatDoorIf4
set_option maxHeartbeats 16000000
set_option maxRecDepth 1000000
namespace Go.Proofs.YtgflkkjhckcipaaGreatDoor.Pr
open Go.RowKit Go.Shelf Go.Proofs.YtgflkkjhckcipaaGreatDoorW.PrintWords Go.Proofs.YtgflkkjhckcipaaGreatDoorW.PrintLast Go.Proofs.YtgflkkjhckcipaaGreatDoorW.PrintMore
set_option linter.unusedVariables false
set_option linter.unusedSimpArgs false
section
attribute [local go_sem] Oper.semAt_some
theorem room_calls (w0 : World) (A : Option Addr) (c : Nat) (l : List Int) (hC : (Kd.int .u8).C w0 A l.length l) (hc : l.length ≤ c) (w : World) (g : Nat) (N at_ : Int) (v : Value) (out : List Int) (most : Int) (n : Int) (H : RdrAt w0 w g A c l N at_ v out most) :
    Calls Tryz.prog 32 #[.pointer (some ⟨g, 0, none⟩), .int .i64 n] w fun e w' => (¬ n > wrap64 (most - (out.length : Int)) ∧ e = .returned (.tuple #[]) ∧ Below w.heap.size w w') ∨ (n > wrap64 (most - (out.length : Int)) ∧ Gives w0.heap.size w w' 3 e) := by
  obtain ⟨Ao, co, rfl⟩ := Kd.R_slice H.row; have HB := Ak H.below; have GE := Ak H.ge; have H0 := Ak H.below.size; have BG := Ak H.blk; have HO := Ak H.row; have HC := Ak hC; have HCc := Ak hc; have HW := Ak (Below.refl w.heap.size w); clear H hC hc; have huR := Tryz.underlying45; have huB := Tryz.underlying43
  by_cases h2 : n > wrap64 (most - (out.length : Int))
  · have HN := Ak h2; have q0 := eq_true h2; have q0b : decide (wrap64 (most - (out.length : Int)) < n) = true := decide_eq_true h2; clear h2; go_enter Tryz.func32, Tryz.ntmps32
    go_upto_region 0 with (fail)
    replace HB := Ak (below_drew1 HB.out); replace BG := Ak (blk_drew BG.out); replace HO := Ak (Kd.R_drew HO.out); replace HW := Ak (below_drew1 HW.out); refine sq 12 (S := fun w' => w'.cell? ⟨g, 3, none⟩ = some (.slice Ao out.length co) ∧ w'.cell? ⟨g, 4, none⟩ = some (.int .i64 most)) (ds := []) ⟨(blk_cell BG.out 3).trans rfl, (blk_cell BG.out 4).trans rfl⟩ fun hHeld => ?_; generalize w.drew = wd at HB BG HO HW hHeld ⊢; refine pq 0 4 ?_; refine pq 1 5 ?_; refine pq 2 6 ?_; refine pq 3 7 ?_; refine pq 5 9 ?_; refine pq 6 10 ?_; refine pq 7 11 ?_; refine tq 4 8 ?_ hHeld; refine tq 8 12 ?_ hHeld; refine pq 9 13 ?_; refine pq 10 14 ?_; refine pq 11 15 ?_; refine dq ?_
    go_wp2_with (go_at_call 21; refine (stop_calls 3 _).mono ?_; rintro e w' ⟨p, rfl, hfa, hb⟩)
    exact ⟨rfl, .inr ⟨p, rfl, hfa, (HW.out.mono H0.out).trans (hb.mono HB.out.size)⟩⟩
  have HN := Ak h2; have q0 := eq_false h2; have q0b : decide (wrap64 (most - (out.length : Int)) < n) = false := decide_eq_false h2; clear h2; go_enter Tryz.func32, Tryz.ntmps32
  go_upto_region 0 with (fail)
  replace HB := Ak (below_drew1 HB.out); replace BG := Ak (blk_drew BG.out); replace HO := Ak (Kd.R_drew HO.out); replace HW := Ak (below_drew1 HW.out); refine sq 12 (S := fun w' => w'.cell? ⟨g, 3, none⟩ = some (.slice Ao out.length co) ∧ w'.cell? ⟨g, 4, none⟩ = some (.int .i64 most)) (ds := []) ⟨(blk_cell BG.out 3).trans rfl, (blk_cell BG.out 4).trans rfl⟩ fun hHeld => ?_; generalize w.drew = wd at HB BG HO HW hHeld ⊢; refine pq 0 4 ?_; refine pq 1 5 ?_; refine pq 2 6 ?_; refine pq 3 7 ?_; refine pq 5 9 ?_; refine pq 6 10 ?_; refine pq 7 11 ?_; refine tq 4 8 ?_ hHeld; refine tq 8 12 ?_ hHeld; refine pq 9 13 ?_; refine pq 10 14 ?_; refine pq 11 15 ?_; refine dq ?_; go_wp2
  go_end0
  exact ⟨HN.out, rfl, HW.out⟩
theorem rsym_nil (w0 : World) (A : Option Addr) (c : Nat) (l : List Int) (hC : (Kd.int .u8).C w0 A l.length l) (hc : l.length ≤ c) (w : World) (g : Nat) (N at_ : Int) (v : Value) (out : List Int) (most : Int) (H : RdrAt w0 w g A c l N at_ v out most) :
    Calls Tryz.prog 44 #[.pointer (some ⟨g, 0, none⟩), .pointer none] w fun e w' => Gives w0.heap.size w w' 13 e := by
  have HB := Ak H.below; have GE := Ak H.ge; have H0 := Ak H.below.size; have BG := Ak H.blk; have HO := Ak H.row; have HC := Ak hC; have HCc := Ak hc; have HW := Ak (Below.refl w.heap.size w); clear H hC hc; have huR := Tryz.underlying45; have huB := Tryz.underlying43; go_enter Tryz.func44, Tryz.ntmps44
  go_wp2_with (go_at_call 21; refine (stop_calls 13 _).mono ?_; rintro e w' ⟨p, rfl, hfa, hb⟩)
  exact ⟨rfl, p, rfl, hfa, (HW.out.mono H0.out).trans (hb.mono HB.out.size)⟩
theorem TableAt.on {w w' : World} {g : Nat} {cl ss : List Int} (h : TableAt w g cl ss) (hb : Below w.heap.size w w') : TableAt w' g cl ss := by
  obtain ⟨h1, A, c, h2, h3⟩ := h; exact ⟨h1, A, c, blk_below h2 hb, Kd.C_below h3 hb⟩
theorem rsym_calls (k : Nat) (w0 : World) (A : Option Addr) (c : Nat) (l : List Int) (hC : (Kd.int .u8).C w0 A l.length l) (hc : l.length ≤ c) (w : World) (g : Nat) (N at_ : Int) (v : Value) (out : List Int) (most : Int) (gt : Nat) (cl ss : List Int) (r1 r2 r3 : Int) (H : RdrAt w0 w g A c l N at_ v out most) (hT : TableAt w gt cl ss) (hf : readF k cl ss l N at_ = some (r1, r2, r3)) :
    Calls Tryz.prog 44 #[.pointer (some ⟨g, 0, none⟩), .pointer (some ⟨gt, 0, none⟩)] w fun e w' => (r3 = 0 ∧ e = .returned (.int .i64 r1) ∧ RdrAt w0 w' g A c l N r2 v out most ∧ Moved w w' g v v) ∨ (r3 ≠ 0 ∧ Gives w0.heap.size w w' r3 e) := by
  have HF := Ak hf; have HT := Ak hT; clear hf hT; have HB := Ak H.below; have GE := Ak H.ge; have H0 := Ak H.below.size; have BG := Ak H.blk; have HO := Ak H.row; have HC := Ak hC; have HCc := Ak hc; have HW := Ak (Below.refl w.heap.size w); clear H hC hc; have huR := Tryz.underlying45; have huB := Tryz.underlying43
  by_cases h2 : r3 = 0
  · subst h2; go_enter Tryz.func44, Tryz.ntmps44
    go_upto_region 3 with (fail)
    replace HB := Ak (below_drew1 HB.out); replace BG := Ak (blk_drew BG.out); replace HO := Ak (Kd.R_drew HO.out); replace HW := Ak (below_drew1 HW.out); refine sq 17 (S := fun w' => w'.cell? ⟨g, 0, none⟩ = some (.slice A l.length c) ∧ w'.cell? ⟨g, 1, none⟩ = some (.int .i64 N) ∧ w'.cell? ⟨g, 2, none⟩ = some (.int .i64 at_)) (ds := []) ⟨(blk_cell BG.out 0).trans rfl, (blk_cell BG.out 1).trans rfl, (blk_cell BG.out 2).trans rfl⟩ fun hHeld => ?_; generalize w.drew = wd at HB BG HO HW hHeld ⊢; refine pq 0 12 ?_; refine pq 1 13 ?_; refine pq 2 14 ?_; refine pq 3 15 ?_; refine pq 5 17 ?_; refine pq 6 18 ?_; refine pq 7 19 ?_; refine tq 4 16 ?_ hHeld; refine tq 8 20 ?_ hHeld; refine oq 9 21 fun K hK => ?_; refine gq Tryz.func63 #[.pointer (some ⟨gt, 0, none⟩), .agg #[.slice A l.length c, .int .i64 N], .int .i64 at_] ?_
    with_reducible refine (table_Read.calls k gt A c l N at_ cl ss r1 r2 0 _ (Kd.C_below HC.out HB.out) HCc.out (TableAt.on HT.out HW.out) HF.out).mono ?_
    rintro e w5 ⟨rfl, hb⟩; refine ⟨_, rfl, ?_⟩; replace HB := Ak (below_then HB.out HB.out.size hb); replace BG := Ak (blk_below BG.out hb); replace HO := Ak (Kd.R_below HO.out hb); replace HW := Ak (below_then HW.out HW.out.size hb); clear hb; refine hK.out _ _ ⟨(blk_cell BG.out 0).trans rfl, (blk_cell BG.out 1).trans rfl, (blk_cell BG.out 2).trans rfl⟩ (fun hHeld => ?_); clear hK K; refine nq 21 ?_; refine pq 10 11 ?_; refine pq 11 22 ?_; refine pq 12 23 ?_; refine pq 13 24 ?_; refine pq 14 5 ?_; refine pq 15 6 ?_; refine pq 16 7 ?_; refine dq ?_; have hc2 : w5.cell? ⟨g, 2, none⟩ = some (.int .i64 at_) := (blk_cell BG.out 2).trans rfl; have hf2 := blk_frozen BG.out 2
    go_wp2_with (go_at_call 31; refine (must_zero _).mono ?_; rintro e w' ⟨rfl, rfl⟩)
    go_ret; exact .inl ⟨trivial, rfl, RdrAt.setAt ⟨HB.out, GE.out, BG.out, HO.out⟩ _, (Moved.of_below g v HW.out).set_ 2 _⟩
  have HN := Ak h2; clear h2; go_enter Tryz.func44, Tryz.ntmps44
  go_upto_region 3 with (fail)
  replace HB := Ak (below_drew1 HB.out); replace BG := Ak (blk_drew BG.out); replace HO := Ak (Kd.R_drew HO.out); replace HW := Ak (below_drew1 HW.out); refine sq 17 (S := fun w' => w'.cell? ⟨g, 0, none⟩ = some (.slice A l.length c) ∧ w'.cell? ⟨g, 1, none⟩ = some (.int .i64 N) ∧ w'.cell? ⟨g, 2, none⟩ = some (.int .i64 at_)) (ds := []) ⟨(blk_cell BG.out 0).trans rfl, (blk_cell BG.out 1).trans rfl, (blk_cell BG.out 2).trans rfl⟩ fun hHeld => ?_; generalize w.drew = wd at HB BG HO HW hHeld ⊢; refine pq 0 12 ?_; refine pq 1 13 ?_; refine pq 2 14 ?_; refine pq 3 15 ?_; refine pq 5 17 ?_; refine pq 6 18 ?_; refine pq 7 19 ?_; refine tq 4 16 ?_ hHeld; refine tq 8 20 ?_ hHeld; refine oq 9 21 fun K hK => ?_; refine gq Tryz.func63 #[.pointer (some ⟨gt, 0, none⟩), .agg #[.slice A l.length c, .int .i64 N], .int .i64 at_] ?_
  with_reducible refine (table_Read.calls k gt A c l N at_ cl ss r1 r2 r3 _ (Kd.C_below HC.out HB.out) HCc.out (TableAt.on HT.out HW.out) HF.out).mono ?_
  rintro e w5 ⟨rfl, hb⟩; refine ⟨_, rfl, ?_⟩; replace HB := Ak (below_then HB.out HB.out.size hb); replace BG := Ak (blk_below BG.out hb); replace HO := Ak (Kd.R_below HO.out hb); replace HW := Ak (below_then HW.out HW.out.size hb); clear hb; refine hK.out _ _ ⟨(blk_cell BG.out 0).trans rfl, (blk_cell BG.out 1).trans rfl, (blk_cell BG.out 2).trans rfl⟩ (fun hHeld => ?_); clear hK K; refine nq 21 ?_; refine pq 10 11 ?_; refine pq 11 22 ?_; refine pq 12 23 ?_; refine pq 13 24 ?_; refine pq 14 5 ?_; refine pq 15 6 ?_; refine pq 16 7 ?_; refine dq ?_
  go_wp2_with (go_at_call 31; refine (must_else r3 HN.out _).mono ?_; rintro e w' ⟨p, rfl, hfa, hb⟩)
  exact ⟨rfl, .inr ⟨HN.out, p, rfl, hfa, (HW.out.mono H0.out).trans (hb.mono HB.out.size)⟩⟩
end
-- YtgflkkjhckcipaaGreatDoorIf5
open Hu (checkS countedS usedL Lok symsS newS symsL TableOwn)
theorem checkS_lens {zs : List Int} (h : checkS zs ≠ 2) : 1 ≤ zs.length ∧ zs.length ≤ 288 ∧ ∀ k : Nat, k < zs.length → 0 ≤ zs.getD k 0 ∧ zs.getD k 0 ≤ 15 := by
  have h0 : (countedS zs).2 = true := by
    cases e : (countedS zs).2 with
    | true => rfl
    | false => exact absurd (by unfold checkS; rw [if_pos e]) h
  unfold countedS at h0
  by_cases h1 : zs.length < 1 ∨ 288 < zs.length
  · rw [if_pos h1] at h0; cases h0
  rw [if_neg h1] at h0
  by_cases h2 : (usedL zs zs.length).all (fun x => decide (Lok x.2)) = true
  · refine ⟨by omega, by omega, fun k hk => ?_⟩
    by_cases hz : zs.getD k 0 = 0
    · omega
    have hm : (k, zs.getD k 0) ∈ usedL zs zs.length := by
      unfold usedL; rw [List.mem_filter]; exact ⟨List.mem_map.2 ⟨k, List.mem_range.2 hk, by rw [List.getD_eq_getElem?_getD]⟩, by simpa using hz⟩
    have := List.all_eq_true.1 h2 _ hm; exact of_decide_eq_true this
  rw [if_neg h2] at h0; cases h0
theorem C_eq {A : Option Addr} {n : Nat} {xs : List Int} {W W' : World} (h : (Kd.int .i64).C W A n xs) (hk : ∀ ad, A = some ad → W'.heap[ad.block]? = W.heap[ad.block]?) : (Kd.int .i64).C W' A n xs := by
  obtain ⟨h1, h2, h3⟩ := h; refine ⟨h1, h2, fun hn => ?_⟩; obtain ⟨a, ha, hx⟩ := h3 hn; refine ⟨a, ha, fun i p hp => ?_⟩; obtain ⟨cs, hcs, hK, hcell⟩ := hx i p hp; refine ⟨cs, hcs, hK, fun j u hu => ?_⟩; have := hcell j u hu; have hb := hk a ha; rw [← this]; have e : (a.add (i * (Kd.int .i64).sz + j)).block = a.block := add_block _ _; unfold World.cell?; rw [e, hb]
def TabIn (w : World) (gt : Nat) (cl ss : List Int) : Prop := cl.length = 16 ∧ ∃ A c, w.heap[gt]? = some (.cells (tblCells cl A ss.length c) 136 (0, 0)) ∧ (Kd.int .i64).C w A ss.length ss ∧ (∀ ad, A = some ad → ∃ cells, w.heap[ad.block]? = some (.cells cells 3 (0, 0)))
theorem TabIn.at_ {w : World} {gt : Nat} {cl ss : List Int} (h : TabIn w gt cl ss) : TableAt w gt cl ss := by
  obtain ⟨h1, A, c, h2, h3, _⟩ := h; exact ⟨h1, A, c, h2, h3⟩
theorem TabIn.same {w w' : World} {gt : Nat} {cl ss : List Int} (h : TabIn w gt cl ss) (hk : ∀ (k : Nat) (t : TypeId) (cells : Array Value), w.heap[k]? = some (.cells cells t (0, 0)) → (t = 136 ∨ t = 3) → w'.heap[k]? = w.heap[k]?) : TabIn w' gt cl ss := by
  obtain ⟨h1, A, c, h2, h3, h4⟩ := h; refine ⟨h1, A, c, (hk gt _ _ h2 (.inl rfl)).trans h2, C_eq h3 (fun ad e => ?_), fun ad e => ?_⟩
  · obtain ⟨cells, hc⟩ := h4 ad e; exact hk _ _ _ hc (.inr rfl)
  obtain ⟨cells, hc⟩ := h4 ad e; exact ⟨cells, (hk _ _ _ hc (.inr rfl)).trans hc⟩
theorem TabIn.on {w w' : World} {gt : Nat} {cl ss : List Int} (h : TabIn w gt cl ss) (hb : Below w.heap.size w w') : TabIn w' gt cl ss := h.same fun k _ _ hc _ => hb.block k (blk_lt hc)
theorem TabIn.moved {w0 w w' : World} {g c : Nat} {A : Option Addr} {l : List Int} {N at_ : Int} {v v' : Value} {out : List Int} {most : Int} {gt : Nat} {cl ss : List Int} (h : TabIn w gt cl ss) (H : RdrAt w0 w g A c l N at_ v out most) (hm : Moved w w' g v v') : TabIn w' gt cl ss := h.same fun k t cells hc ht => by
  refine hm.keep k (blk_lt hc) (fun e => ?_) (fun e => ?_)
  · subst e; have := H.blk; rw [hc] at this
    injection this with this
    injection this with _ this _
    rcases ht with rfl | rfl <;> exact absurd this (by decide)
  · obtain ⟨cells', hc'⟩ := Kd.R_typed H.row k e.symm; rw [hc] at hc'
    injection hc' with hc'
    injection hc' with _ hc' _
    rcases ht with rfl | rfl <;> exact absurd hc' (by decide)
theorem TabIn.of_own {w : World} {base gt : Nat} {cl ss : List Int} (h : TableOwn w base gt cl ss) : TabIn w gt cl ss := by
  obtain ⟨h1, _, v, h2, h3⟩ := h; obtain ⟨A, c, rfl⟩ := Kd.R_slice h3; refine ⟨h1, A, c, h2, (Kd.R_reads' h3).2.2, fun ad e => ?_⟩; exact Kd.R_typed h3 ad.block (by subst e; rfl)
section
attribute [local go_sem] Oper.semAt_some
theorem table_calls (A : Option Addr) (c : Nat) (z : List Int) (w : World) (hr : (Kd.int .i64).C w A z.length z) :
    Calls Tryz.prog 34 #[.slice A z.length c] w fun e w' => (newS z = 0 ∧ ∃ gt, e = .returned (.pointer (some ⟨gt, 0, none⟩)) ∧ TabIn w' gt (countedS z).1 (symsS z) ∧ Below w.heap.size w w') ∨ (newS z ≠ 0 ∧ Gives w.heap.size w w' (newS z) e) := by
  have K := Ak (Hu.huff_New_all A c z w hr (fun h => ⟨fun x hx => by
    obtain ⟨j, hj, rfl⟩ := List.getElem_of_mem hx; have := (checkS_lens h).2.2 j hj
    rwa [List.getD_eq_getElem?_getD, List.getElem?_eq_getElem hj] at this, (checkS_lens h).2.1⟩))
  obtain ⟨x, hx⟩ : ∃ x, newS z = x := ⟨_, rfl⟩; unfold Hu.NewPost at K; rw [hx] at K ⊢; clear hx hr
  by_cases h : x = 0
  · subst h; go_enter Tryz.func34, Tryz.ntmps34
    go_wp2_with (first | (go_at_call 46; refine K.out.mono ?_; rintro e w3 ⟨h1, _, hb⟩; obtain ⟨gt, rfl, ho⟩ := h1 rfl; have HB := Ak hb; have HO := Ak ho; clear h1 hb ho) | (go_at_call 31; refine (must_zero _).mono ?_; rintro e w' ⟨rfl, rfl⟩))
    go_ret; exact .inl ⟨trivial, gt, rfl, TabIn.of_own HO.out, HB.out⟩
  have HN := Ak h; go_enter Tryz.func34, Tryz.ntmps34
  go_wp2_with (first | (go_at_call 46; refine K.out.mono ?_; rintro e w3 ⟨_, h1, hb⟩; obtain rfl := h1 HN.out; have HB := Ak hb; clear h1 hb) | (go_at_call 31; refine (must_else x HN.out _).mono ?_; rintro e w' ⟨p, rfl, hfa, hb⟩))
  exact ⟨rfl, .inr ⟨HN.out, p, rfl, hfa, HB.out.trans (hb.mono HB.out.size)⟩⟩
end
-- YtgflkkjhckcipaaGreatDoorIf6
theorem wrapid {x : Int} (h0 : -9223372036854775808 ≤ x) (h1 : x ≤ 9223372036854775807) : wrap64 x = x := by unfold wrap64; omega
theorem i64of (a : Nat) (ha : a < 9223372036854775808) : (BitVec.ofInt 64 (a : Int)).toNat = a := by
  rw [BitVec.ofInt_natCast, BitVec.toNat_ofNat]; exact Nat.mod_eq_of_lt (by omega)
theorem i64andN (a b : Nat) (ha : a < 9223372036854775808) (hb : b < 9223372036854775808) : Go.bits .and .i64 (a : Int) (b : Int) = ((a &&& b : Nat) : Int) := by
  have hx : a &&& b < 2 ^ 63 := Nat.and_lt_two_pow _ (by omega)
  show IntKind.i64.wrap ((BitVec.ofInt 64 (a : Int) &&& BitVec.ofInt 64 (b : Int)).toNat : Int) = _
  rw [BitVec.toNat_and, i64of a ha, i64of b hb, IntKind.wrap_i64]
  omega
theorem i64orN (a b : Nat) (ha : a < 9223372036854775808) (hb : b < 9223372036854775808) : Go.bits .or .i64 (a : Int) (b : Int) = ((a ||| b : Nat) : Int) := by
  have hx : a ||| b < 2 ^ 63 := Nat.or_lt_two_pow (by omega) (by omega)
  show IntKind.i64.wrap ((BitVec.ofInt 64 (a : Int) ||| BitVec.ofInt 64 (b : Int)).toNat : Int) = _
  rw [BitVec.toNat_or, i64of a ha, i64of b hb, IntKind.wrap_i64]
  omega
theorem and7 (n : Int) (h0 : 0 ≤ n) (h1 : n ≤ 9223372036854775807) : Go.bits .and .i64 n 7 = n % 8 := by
  have h := i64andN n.toNat 7 (by omega) (by omega); rw [show ((n.toNat : Nat) : Int) = n by omega] at h; rw [show (7 : Int) = ((7 : Nat) : Int) from rfl, h, Nat.and_two_pow_sub_one_eq_mod n.toNat 3]
  omega
theorem and1 (n : Int) (h0 : 0 ≤ n) (h1 : n ≤ 9223372036854775807) : Go.bits .and .i64 n 1 = n % 2 := by
  have h := i64andN n.toNat 1 (by omega) (by omega); rw [show ((n.toNat : Nat) : Int) = n by omega] at h; rw [show (1 : Int) = ((1 : Nat) : Int) from rfl, h, Nat.and_two_pow_sub_one_eq_mod n.toNat 1]
  omega
theorem orAdd (x i b : Nat) (hx : x < 2 ^ i) (hb : b = 0 ∨ b = 1) : x ||| (b * 2 ^ i) = x + b * 2 ^ i := by
  rcases hb with rfl | rfl
  · simp
  have h := Nat.two_pow_add_eq_or_of_lt hx 1; rw [Nat.mul_one] at h; rw [Nat.one_mul, Nat.or_comm, ← h, Nat.add_comm]
theorem shr_eq (x : Int) (i : Nat) (hi : i ≤ 64) : shr .i64 x (i : Int) = x / 2 ^ i := by
  unfold shr; rw [Int.toNat_natCast, Nat.min_eq_left (by simpa [IntKind.bits] using hi)]
theorem shr8_eq (x : Int) (i : Nat) (hi : i ≤ 8) : shr .u8 x (i : Int) = x / 2 ^ i := by
  unfold shr; rw [Int.toNat_natCast, Nat.min_eq_left (by simpa [IntKind.bits] using hi)]
theorem shl_eq (x : Int) (i : Nat) (hi : i ≤ 64) : shl .i64 x (i : Int) = wrap64 (x * 2 ^ i) := by
  unfold shl; rw [Int.toNat_natCast, Nat.min_eq_left (by simpa [IntKind.bits] using hi), i64_w]
def vb (v : Int) (i : Nat) : Int := v / 2 ^ i % 2
theorem div_small {v : Int} {n : Nat} (h0 : 0 ≤ v) (h : v < 2 ^ n) : v / 2 ^ n = 0 := Int.ediv_eq_zero_of_lt h0 h
theorem pow_pos2 (n : Nat) : (0 : Int) < 2 ^ n := Int.pow_pos (by omega)
theorem pow_le2 {m n : Nat} (h : m ≤ n) : (2 : Int) ^ m ≤ 2 ^ n := by
  have := Nat.pow_le_pow_right (n := 2) (by omega) h
  have h2 : ((2 ^ m : Nat) : Int) ≤ ((2 ^ n : Nat) : Int) := by omega
  simpa using h2
theorem lt_of_div_zero {v : Int} {n : Nat} (h : v / 2 ^ n = 0) : v < 2 ^ n := by
  have := Int.lt_mul_ediv_self_add (x := v) (pow_pos2 n); rw [h] at this
  omega
theorem bit_of (v : Int) (i : Nat) (hi : i ≤ 64) (h0 : 0 ≤ v) (h1 : v ≤ 9223372036854775807) : Go.bits .and .i64 (shr .i64 v (i : Int)) 1 = vb v i := by
  rw [shr_eq v i hi]; have hp := pow_pos2 i; have hq : v / 2 ^ i ≤ v := Int.ediv_le_self _ h0; have hr : 0 ≤ v / 2 ^ i := Int.ediv_nonneg h0 (by omega); rw [and1 _ hr (by omega)]
  rfl
def Byt (l : List Int) : Prop := ∀ x ∈ l, 0 ≤ x ∧ x < 256
theorem byt_get {l : List Int} (h : Byt l) (i : Nat) : 0 ≤ l.getD i 0 ∧ l.getD i 0 < 256 := by
  rw [List.getD_eq_getElem?_getD]
  by_cases hi : i < l.length
  · rw [List.getElem?_eq_getElem hi]; exact h _ (List.getElem_mem hi)
  rw [List.getElem?_eq_none (by omega)]
  simp
theorem rd_nat (l : List Int) (i : Nat) : rd l (i : Int) = l.getD i 0 := by unfold rd; rw [Int.toNat_natCast]
def bat (l : List Int) (k : Nat) : Int := l.getD (k / 8) 0 / 2 ^ (k % 8) % 2
theorem bat_01 (l : List Int) (k : Nat) : bat l k = 0 ∨ bat l k = 1 := by unfold bat; omega
def Rgt (l : List Int) (n : Nat) : Prop := Byt l ∧ l.length = (n + 7) / 8 ∧ l.getD (n / 8) 0 < 2 ^ (n % 8)
theorem rgt_whole {l : List Int} (h : Byt l) : Rgt l (8 * l.length) := by
  refine ⟨h, by omega, ?_⟩; rw [show 8 * l.length / 8 = l.length by omega, show 8 * l.length % 8 = 0 by omega, List.getD_eq_getElem?_getD, List.getElem?_eq_none (by omega)]
  simp
def okR (l : List Int) (n : Int) : Bool := decide (0 ≤ n) && decide (l.length = (n.toNat + 7) / 8) && decide (l.getD (n.toNat / 8) 0 < 2 ^ (n.toNat % 8))
theorem okR_iff {l : List Int} {n : Int} (hb : Byt l) : okR l n = true ↔ 0 ≤ n ∧ Rgt l n.toNat := by
  unfold okR Rgt; simp only [Bool.and_eq_true, decide_eq_true_eq]; exact ⟨fun h => ⟨h.1.1, hb, h.1.2, h.2⟩, fun h => ⟨⟨h.1, h.2.2.1⟩, h.2.2.2⟩⟩
theorem okR_nat {l : List Int} {n : Nat} (h : Rgt l n) : okR l (n : Int) = true := (okR_iff h.1).2 ⟨by omega, by rw [Int.toNat_natCast]; exact h⟩
theorem last_zero {l : List Int} {n : Nat} (hb : Byt l) (hl : l.length = (n + 7) / 8) (h8 : n % 8 ≠ 0) : (l.getD (n / 8) 0 / 2 ^ (n % 8) = 0) ↔ l.getD (n / 8) 0 < 2 ^ (n % 8) :=
  ⟨lt_of_div_zero, fun h => div_small (byt_get hb _).1 h⟩
theorem check_eq {k : Nat} (hk : 1 ≤ k) {l : List Int} {n : Int} (hb : Byt l) (hl : l.length ≤ 140737488355328) (h0 : -9223372036854775808 ≤ n) (h1 : n ≤ 9223372036854775807) : bits_Check.f k l n = some (if okR l n = true then 0 else 2) := by
  obtain ⟨k, rfl⟩ : ∃ m, k = m + 1 := ⟨k - 1, by omega⟩; unfold bits_Check.f
  by_cases hn : n < 0
  · rw [if_pos hn]
    have : okR l n = false := by unfold okR; simp; omega
    simp [bits_Check.j0, this]
  rw [if_neg hn, and7 n (by omega) h1]; obtain ⟨m, rfl⟩ : ∃ m : Nat, n = (m : Int) := ⟨n.toNat, by omega⟩; have e1 : wrap64 ((m : Int) % 8 + 7) = (m : Int) % 8 + 7 := wrapid (by omega) (by omega)
  have e2 : wrap64 ((m : Int) / 8 + ((m : Int) % 8 + 7) / 8) = ((m + 7) / 8 : Nat) := by rw [wrapid (by omega) (by omega)]; omega
  rw [e1, e2]
  by_cases hlen : l.length = (m + 7) / 8
  rotate_left
  · have e3 : (((l.length : Nat) : Int) != (((m + 7) / 8 : Nat) : Int)) = true := by rw [bne_iff_ne]; omega
    rw [e3]
    have : okR l (m : Int) = false := by unfold okR; rw [Int.toNat_natCast]; simp only [Bool.and_eq_false_iff, decide_eq_false_iff_not]; exact .inl (.inr hlen)
    rw [this]
    simp [bits_Check.j0]
  have e3 : (((l.length : Nat) : Int) != (((m + 7) / 8 : Nat) : Int)) = false := by rw [bne_eq_false_iff_eq]; omega
  rw [e3]; simp only [bits_Check.j0, Bool.false_eq_true, if_false]; rw [and7 _ (by omega) h1]
  by_cases h8 : (m : Int) % 8 = 0
  · rw [if_pos h8]
    have : okR l (m : Int) = true := by
      unfold okR; rw [Int.toNat_natCast, List.getD_eq_getElem?_getD, List.getElem?_eq_none (by omega)]
      simp [hlen]
      exact pow_pos2 _
    rw [this]; rfl
  rw [if_neg h8]
  have e4 : wrap64 ((l.length : Int) - 1) = ((m / 8 : Nat) : Int) := by rw [wrapid (by omega) (by omega)]; omega
  rw [e4, if_pos (by omega), if_pos (by omega), if_pos (by omega), rd_nat, show (m : Int) % 8 = ((m % 8 : Nat) : Int) by omega, shr8_eq _ _ (by omega)]
  by_cases hz : l.getD (m / 8) 0 < 2 ^ (m % 8)
  · rw [if_pos ((last_zero hb hlen (by omega)).2 hz)]
    have : okR l (m : Int) = true := by unfold okR; rw [Int.toNat_natCast]; simp only [Bool.and_eq_true, decide_eq_true_eq]; exact ⟨⟨by omega, hlen⟩, hz⟩
    rw [this]; rfl
  rw [if_neg (fun h => hz ((last_zero hb hlen (by omega)).1 h))]
  have : okR l (m : Int) = false := by unfold okR; rw [Int.toNat_natCast]; simp only [Bool.and_eq_false_iff, decide_eq_false_iff_not]; exact .inr hz
  rw [this]; rfl
theorem tdivN (a b : Nat) : Int.tdiv (a : Int) (b : Int) = ((a / b : Nat) : Int) := by rw [Int.tdiv_eq_ediv_of_nonneg (by omega)]; omega
theorem tmodN (a b : Nat) : Int.tmod (a : Int) (b : Int) = ((a % b : Nat) : Int) := by rw [Int.tmod_eq_emod_of_nonneg (by omega)]; omega
theorem tdiv8 (a : Nat) : Int.tdiv (a : Int) 8 = ((a / 8 : Nat) : Int) := tdivN a 8
theorem tmod8 (a : Nat) : Int.tmod (a : Int) 8 = ((a % 8 : Nat) : Int) := tmodN a 8
theorem bit_eq {l : List Int} (hb : Byt l) (n : Int) (k : Nat) (hk : k / 8 < l.length) (hk2 : k ≤ 9223372036854775807) : bits_bit.f l n (k : Int) = some (bat l k) := by
  unfold bits_bit.f; have hx := byt_get hb (k / 8); rw [and7 _ (by omega) (by omega), show (k : Int) / 8 = ((k / 8 : Nat) : Int) by omega, show (k : Int) % 8 = ((k % 8 : Nat) : Int) by omega, if_pos (by omega), if_pos (by omega), if_pos (by omega), rd_nat, wrapid (by omega) (by omega), bit_of _ _ (by omega) hx.1 (by omega)]
  rfl
def getV (l : List Int) (a : Nat) : Nat → Int
  | 0 => 0
  | c + 1 => getV l a c + bat l (a + c) * 2 ^ c
theorem getV_range (l : List Int) (a c : Nat) : 0 ≤ getV l a c ∧ getV l a c < 2 ^ c := by
  induction c with
  | zero => simp [getV]
  | succ c ih =>
    rw [getV, Int.pow_succ]
    rcases bat_01 l (a + c) with e | e <;> rw [e] <;> omega
theorem orI64 {x : Int} {i : Nat} {b : Int} (hi : i ≤ 40) (hx0 : 0 ≤ x) (hx : x < 2 ^ i) (hb : b = 0 ∨ b = 1) : Go.bits .or .i64 x (shl .i64 b (i : Int)) = x + b * 2 ^ i := by
  have h40 := pow_le2 hi
  have e40 : (2 : Int) ^ 40 = 1099511627776 := by decide
  rw [e40] at h40
  have hsh : 0 ≤ b * 2 ^ i ∧ b * 2 ^ i ≤ 1099511627776 := by rcases hb with rfl | rfl <;> omega
  rw [shl_eq b i (by omega), wrapid (by omega) (by omega)]; obtain ⟨c, rfl⟩ : ∃ c : Nat, x = (c : Int) := ⟨x.toNat, by omega⟩; obtain ⟨d, rfl⟩ : ∃ d : Nat, b = (d : Int) := ⟨b.toNat, by omega⟩
  have hp : ((2 ^ i : Nat) : Int) = 2 ^ i := by simp
  have e1 : (d : Int) * 2 ^ i = ((d * 2 ^ i : Nat) : Int) := by rw [Int.natCast_mul, hp]
  rw [e1] at hsh ⊢; rw [i64orN c _ (by omega) (by omega), orAdd c i d (by omega) (by omega)]
  omega
theorem getl_eq {l : List Int} {n : Nat} (h : Rgt l n) (hn : n ≤ 1125899906842624) (a : Nat) (c : Nat) (hc : c ≤ 32) (ha : a + c ≤ n) : ∀ (d k i : Nat), i + d = c → d < k →
    bits_Get.l0 k (a : Int) (getV l a i) (c : Int) (i : Int) l (n : Int) = some (getV l a c, 0) := by
  intro d
  induction d with
  | zero =>
    intro k i hi hk; obtain ⟨k, rfl⟩ : ∃ m, k = m + 1 := ⟨k - 1, by omega⟩; simp only [bits_Get.l0]; rw [if_neg (by omega), show i = c by omega]
  | succ d ih =>
    intro k i hi hk; obtain ⟨k, rfl⟩ : ∃ m, k = m + 1 := ⟨k - 1, by omega⟩; have hl := h.2.1; obtain ⟨g0, g1⟩ := getV_range l a i; simp only [bits_Get.l0]; rw [if_pos (by omega), show wrap64 ((a : Int) + (i : Int)) = ((a + i : Nat) : Int) by rw [wrapid (by omega) (by omega)]; omega, bit_eq h.1 _ _ (by omega) (by omega)]; simp only [Option.bind_some]; rw [if_pos (by omega), orI64 (by omega) g0 g1 (bat_01 l _), show wrap64 ((i : Int) + 1) = ((i + 1 : Nat) : Int) by rw [wrapid (by omega) (by omega)]; omega]; exact ih k (i + 1) (by omega) (by omega)
def getS (l : List Int) (n a c : Int) : Int × Int :=
  if (okR l n && decide (0 ≤ c) && decide (c ≤ 32) && decide (0 ≤ a) && decide (a ≤ n)) = true then (if n - a < c then (0, 4) else (getV l a.toNat c.toNat, 0)) else (0, 2)
theorem get_eq {k : Nat} (hk : 40 ≤ k) {l : List Int} {n a c : Int} (hb : Byt l) (hl : l.length ≤ 140737488355328) (h0 : -9223372036854775808 ≤ n) (h1 : n ≤ 9223372036854775807) : bits_Get.f k l n a c = some (getS l n a c) := by
  obtain ⟨k, rfl⟩ : ∃ m, k = m + 1 := ⟨k - 1, by omega⟩; unfold bits_Get.f getS; rw [check_eq (by omega) hb hl h0 h1]; simp only [Option.bind_some]
  cases hr : okR l n with
  | false => simp [bits_Get.j0]
  | true => ?_
  simp only [if_true, Bool.true_and]
  by_cases q1 : c < 0
  · simp [bits_Get.j0, q1, show ¬ (0 ≤ c) by omega]
  by_cases q2 : c > 32
  · simp [bits_Get.j0, q1, q2, show ¬ (c ≤ 32) by omega]
  by_cases q3 : a < 0
  · simp [bits_Get.j0, q1, q2, q3, show ¬ (0 ≤ a) by omega]
  by_cases q4 : a > n
  · simp [bits_Get.j0, q1, q2, q3, q4, show ¬ (a ≤ n) by omega]
  rw [if_neg q1, if_neg q2, if_neg q3]
  have e : decide (a > n) = false := by simpa using q4
  have e2 : (decide (0 ≤ c) && decide (c ≤ 32) && decide (0 ≤ a) && decide (a ≤ n)) = true := by simp only [Bool.and_eq_true, decide_eq_true_eq]; omega
  rw [e, e2]; simp only [bits_Get.j0, Bool.false_eq_true, if_false, if_true]; rw [wrapid (by omega) (by omega)]
  by_cases q5 : n - a < c
  · rw [if_pos q5, if_pos q5]
  rw [if_neg q5, if_neg q5]; obtain ⟨r1, r2⟩ := (okR_iff hb).1 hr; obtain ⟨m, rfl⟩ : ∃ m : Nat, n = (m : Int) := ⟨n.toNat, by omega⟩; obtain ⟨d, rfl⟩ : ∃ m : Nat, c = (m : Int) := ⟨c.toNat, by omega⟩; obtain ⟨b, rfl⟩ : ∃ m : Nat, a = (m : Int) := ⟨a.toNat, by omega⟩; rw [Int.toNat_natCast] at r2; have := r2.2.1; simp only [Int.toNat_natCast]; exact getl_eq r2 (by omega) b d (by omega) (by omega) d k 0 (by omega) (by omega)
theorem Hu.usedL_mem {zs : List Int} {k : Nat} {x : Nat × Int} (h : x ∈ Hu.usedL zs k) : x.1 < k ∧ x.2 = zs[x.1]?.getD 0 ∧ x.2 ≠ 0 := by
  unfold Hu.usedL at h; rw [List.mem_filter, List.mem_map] at h; obtain ⟨⟨j, hj, rfl⟩, h2⟩ := h; exact ⟨List.mem_range.1 hj, rfl, of_decide_eq_true h2⟩
def OKL (l : List Int) : Prop := 1 ≤ l.length ∧ l.length ≤ 288 ∧ ∀ x ∈ l, 0 ≤ x ∧ x ≤ 15
theorem rdN (l : List Int) (i : Nat) : rd l (i : Int) = l[i]?.getD 0 := by unfold rd; rw [Int.toNat_natCast, List.getD_eq_getElem?_getD]
theorem rd_set (l : List Int) (i j : Nat) (x : Int) (hi : i < l.length) : rd (l.set i x) (j : Int) = if i = j then x else rd l (j : Int) := by
  rw [rdN, rdN, List.getElem?_set]
  by_cases h : i = j
  · subst h; rw [if_pos rfl, if_pos rfl, if_pos hi]
    rfl
  rw [if_neg h, if_neg h]
theorem wrap64_id {x : Int} (h0 : -9223372036854775808 ≤ x) (h1 : x ≤ 9223372036854775807) : wrap64 x = x := by unfold wrap64; omega
theorem take_succ_getD (l : List Int) {k : Nat} (hk : k < l.length) : l.take (k + 1) = l.take k ++ [l[k]?.getD 0] := by
  rw [List.take_add_one, List.getElem?_eq_getElem hk]; rfl
theorem mem_of_getD {l : List Int} {k : Nat} (hk : k < l.length) : l[k]?.getD 0 ∈ l := by rw [List.getElem?_eq_getElem hk]; exact List.getElem_mem hk
theorem count_le (l : List Int) (k : Nat) (x : Int) : (l.take k).count x ≤ k := Nat.le_trans List.count_le_length (by rw [List.length_take]; omega)
theorem cnt_rd (l : List Int) (h : OKL l) : ∀ (k : Nat), k ≤ l.length → ∀ j : Nat, j ≤ 15 → rd (Hu.cntL (Hu.usedL l k)) (j : Int) = if j = 0 then 0 else (((l.take k).count (j : Int) : Nat) : Int)
  | 0, _, j, hj => by
    rw [Hu.usedL_zero, rdN]; unfold Hu.cntL; rw [List.foldl_nil, List.getElem?_replicate, if_pos (by omega), List.take_zero, List.count_nil]
    split <;> rfl
  | k + 1, hk, j, hj => by
    have ih := cnt_rd l h k (by omega); rw [Hu.usedL_succ, take_succ_getD l (by omega), List.count_append]; obtain ⟨x, hx⟩ : ∃ x, l[k]?.getD 0 = x := ⟨_, rfl⟩; have hm := h.2.2 _ (mem_of_getD (show k < l.length by omega)); rw [hx] at hm ⊢
    by_cases h0 : x = 0
    · subst h0; rw [if_pos rfl, ih j hj]
      by_cases hj0 : j = 0
      · rw [if_pos hj0, if_pos hj0]
      · rw [if_neg hj0, if_neg hj0, List.count_singleton, beq_eq_false_iff_ne.mpr (show (0 : Int) ≠ (j : Int) by omega)]
        rfl
    · rw [if_neg h0, Hu.cntL_snoc]; unfold Hu.cntStep; obtain ⟨y, rfl⟩ : ∃ y : Nat, x = (y : Int) := ⟨x.toNat, by omega⟩; have e1 := ih y (by omega); rw [if_neg (by omega)] at e1; rw [Int.toNat_natCast, rd_set _ _ _ _ (by rw [Hu.cntL_len]; omega), e1, ih j hj, List.count_singleton]; have hc := count_le l k (y : Int)
      by_cases hyj : y = j
      · subst hyj; rw [if_pos rfl, if_neg (show ¬ y = 0 by omega), if_pos (beq_iff_eq.mpr rfl), wrap64_id (by omega) (by have := h.2.1; omega)]
        simp
      · rw [if_neg hyj, if_neg (c := ((y : Int) == (j : Int)) = true) (by simp; omega)]
        simp
theorem counted_ok (l : List Int) : (Hu.countedS l).2 = true ↔ OKL l := by
  unfold Hu.countedS OKL
  by_cases h1 : l.length < 1 ∨ 288 < l.length
  · rw [if_pos h1]; exact ⟨fun h => (by cases h), fun h => by omega⟩
  rw [if_neg h1]
  by_cases h2 : (Hu.usedL l l.length).all (fun x => decide (Hu.Lok x.2)) = true
  · rw [if_pos h2]; refine ⟨fun _ => ⟨by omega, by omega, fun x hx => ?_⟩, fun _ => rfl⟩; obtain ⟨i, hi, rfl⟩ := List.getElem_of_mem hx
    by_cases h0 : l[i] = 0
    · omega
    have hm : (i, l[i]) ∈ Hu.usedL l l.length := by
      unfold Hu.usedL; rw [List.mem_filter, List.mem_map]; exact ⟨⟨i, List.mem_range.2 hi, by rw [List.getElem?_eq_getElem hi]; rfl⟩, decide_eq_true h0⟩
    exact of_decide_eq_true (List.all_eq_true.1 h2 _ hm)
  rw [if_neg h2]; refine ⟨fun h => (by cases h), fun h => absurd ?_ h2⟩; refine List.all_eq_true.2 fun x hx => decide_eq_true ?_; obtain ⟨a, b, c⟩ := Hu.usedL_mem hx; rw [b]; exact h.2.2 _ (mem_of_getD a)
theorem counted_rd (l : List Int) (h : OKL l) (j : Nat) (hj : j ≤ 15) : rd (Hu.countedS l).1 (j : Int) = if j = 0 then 0 else ((l.count (j : Int) : Nat) : Int) := by
  have hc : (Hu.countedS l).1 = Hu.cntL (Hu.usedL l l.length) := by
    have := (counted_ok l).2 h; unfold Hu.countedS at this ⊢
    by_cases h1 : l.length < 1 ∨ 288 < l.length
    · rw [if_pos h1] at this; cases this
    rw [if_neg h1] at this ⊢
    by_cases h2 : (Hu.usedL l l.length).all (fun x => decide (Hu.Lok x.2)) = true
    · rw [if_pos h2]
    rw [if_neg h2] at this; cases this
  have := cnt_rd l h l.length (Nat.le_refl _) j hj; rw [List.take_length] at this; rw [hc, this]
def takeT (l : List Int) : Nat → Nat
  | 0 => 0
  | d + 1 => l.count ((15 - d : Nat) : Int) * 2 ^ d + takeT l d
theorem room_sign (l : List Int) (h : OKL l) : ∀ (d : Nat), d ≤ 15 → ∀ left : Int, 0 ≤ left → left ≤ 2 ^ (15 - d) →
    (Hu.roomF (Hu.countedS l).1 d left < 0 ↔ left * 2 ^ d < (takeT l d : Int)) ∧ (0 < Hu.roomF (Hu.countedS l).1 d left ↔ (takeT l d : Int) < left * 2 ^ d)
  | 0, _, left, h0, h1 => by
    unfold Hu.roomF takeT
    simp
  | d + 1, hd, left, h0, h1 => by
    have hp : (2 : Int) ^ (15 - (d + 1)) ≤ 2 ^ 15 := by
      have : (2 : Nat) ^ (15 - (d + 1)) ≤ 2 ^ 15 := Nat.pow_le_pow_right (by omega) (by omega)
      exact_mod_cast this
    have hp2 : (2 : Int) ^ (15 - d) = 2 * 2 ^ (15 - (d + 1)) := by
      rw [show 15 - d = 15 - (d + 1) + 1 by omega, Int.pow_succ, Int.mul_comm]
    have hc := counted_rd l h (15 - d) (by omega); rw [if_neg (by omega)] at hc; have hcl : l.count ((15 - d : Nat) : Int) ≤ 288 := Nat.le_trans List.count_le_length h.2.1; unfold Hu.roomF takeT; rw [hc]; obtain ⟨c, hcc⟩ : ∃ c : Nat, l.count ((15 - d : Nat) : Int) = c := ⟨_, rfl⟩; rw [hcc] at hcl ⊢; rw [wrap64_id (x := 2 * left) (by omega) (by omega), wrap64_id (by omega) (by omega)]; have hpd : (0 : Int) < 2 ^ d := Int.pow_pos (by omega)
    have e : left * 2 ^ (d + 1) = 2 * left * 2 ^ d := by rw [Int.pow_succ, Int.mul_comm 2 left, Int.mul_assoc, Int.mul_comm (2 ^ d) 2]
    have hcast : ((c * 2 ^ d + takeT l d : Nat) : Int) = (c : Int) * 2 ^ d + (takeT l d : Int) := by push_cast; rfl
    rw [hcast, e]; have ed : (2 * left - (c : Int)) * 2 ^ d = 2 * left * 2 ^ d - (c : Int) * 2 ^ d := Int.sub_mul _ _ _
    by_cases hn : 2 * left - (c : Int) < 0
    · rw [if_pos hn]; have hlt : (2 * left - (c : Int)) * 2 ^ d < 0 := Int.mul_neg_of_neg_of_pos hn hpd; refine ⟨⟨fun _ => by omega, fun _ => hn⟩, ⟨fun h => by omega, fun h => by omega⟩⟩
    · rw [if_neg hn]; obtain ⟨i1, i2⟩ := room_sign l h d (by omega) (2 * left - (c : Int)) (by omega) (by omega); rw [ed] at i1 i2; exact ⟨i1.trans ⟨fun h => by omega, fun h => by omega⟩, i2.trans ⟨fun h => by omega, fun h => by omega⟩⟩
theorem checkS_eq (l : List Int) (h : OKL l) : Hu.checkS l = if takeT l 15 > 32768 then 11 else if takeT l 15 < 32768 then 12 else 0 := by
  obtain ⟨i1, i2⟩ := room_sign l h 15 (by omega) 1 (by omega) (by omega); unfold Hu.checkS; rw [if_neg (by rw [(counted_ok l).2 h]; decide)]
  change (Hu.roomS (Hu.countedS l).1 < 0 ↔ _) at i1
  change (0 < Hu.roomS (Hu.countedS l).1 ↔ _) at i2
  have e : (1 : Int) * 2 ^ 15 = 32768 := by decide
  rw [e] at i1 i2
  by_cases h1 : takeT l 15 > 32768
  · rw [if_pos h1, if_pos (i1.2 (by omega))]
  rw [if_neg h1, if_neg (fun hh => by have := i1.1 hh; omega)]
  by_cases h2 : takeT l 15 < 32768
  · rw [if_pos h2, if_pos (i2.2 (by omega))]
  rw [if_neg h2, if_neg (fun hh => by have := i2.1 hh; omega)]
theorem checkS_bad (l : List Int) (h : ¬ OKL l) : Hu.checkS l = 2 := by
  unfold Hu.checkS; rw [if_pos]
  cases hh : (Hu.countedS l).2 with
  | false => rfl
  | true => exact absurd ((counted_ok l).1 hh) h
def Ev {α : Type} (g : Nat → Option α) (r : α) : Prop := ∃ k, ∀ k', k ≤ k' → g k' = some r
theorem Ev.succ {α : Type} {g g' : Nat → Option α} {r : α} (hs : ∀ k, g (k + 1) = g' k) (h : Ev g' r) : Ev g r := by
  obtain ⟨k, h⟩ := h; refine ⟨k + 1, fun k' hk => ?_⟩; obtain ⟨k', rfl⟩ : ∃ m, k' = m + 1 := ⟨k' - 1, by omega⟩; rw [hs]; exact h k' (by omega)
theorem Ev.done {α : Type} {g : Nat → Option α} {r : α} (hs : ∀ k, g (k + 1) = some r) : Ev g r := ⟨1, fun k' hk => by obtain ⟨k', rfl⟩ : ∃ m, k' = m + 1 := ⟨k' - 1, by omega⟩; exact hs k'⟩
def firstC (l : List Int) : Nat → Nat
  | 0 => 0
  | j + 1 => (firstC l j + if j = 0 then 0 else l.count (j : Int)) * 2
theorem firstC_le (l : List Int) (hl : l.length ≤ 288) : ∀ j, firstC l j + 576 ≤ 576 * 2 ^ j
  | 0 => by simp [firstC]
  | j + 1 => by
    have ih := firstC_le l hl j; have hc : l.count (j : Int) ≤ 288 := Nat.le_trans List.count_le_length hl; rw [show firstC l (j + 1) = (firstC l j + if j = 0 then 0 else l.count (j : Int)) * 2 from rfl, Nat.pow_succ]
    split <;> omega
theorem firstC_lt (l : List Int) (hl : l.length ≤ 288) {j : Nat} (hj : j ≤ 16) : firstC l j ≤ 37748736 := by
  have h := firstC_le l hl j; have : (2 : Nat) ^ j ≤ 2 ^ 16 := Nat.pow_le_pow_right (by omega) hj
  omega
def codeN (l : List Int) (i : Nat) : Nat := if l[i]?.getD 0 = 0 then 0 else firstC l (l[i]?.getD 0).toNat + (l.take i).count (l[i]?.getD 0)
theorem okl_of_check {l : List Int} (hc : Hu.checkS l = 0 ∨ Hu.checkS l = 12) : OKL l := by
  by_cases h : OKL l
  · exact h
  have := checkS_bad l h
  omega
theorem rank_lt (l : List Int) {p q : Nat} (hpq : p < q) (hq : q ≤ l.length) : (l.take p).count (l[p]?.getD 0) + 1 ≤ (l.take q).count (l[p]?.getD 0) := by
  have h1 : (l.take (p + 1)).count (l[p]?.getD 0) = (l.take p).count (l[p]?.getD 0) + 1 := by
    rw [take_succ_getD l (by omega), List.count_append, List.count_singleton, if_pos (beq_iff_eq.mpr rfl)]
  rw [← h1]
  have h2 : l.take (p + 1) = (l.take q).take (p + 1) := by rw [List.take_take, Nat.min_eq_left (by omega)]
  rw [h2]; exact List.Sublist.count_le _ (List.take_sublist _ _)
theorem code_lt (l : List Int) {p : Nat} (hp : p < l.length) (h0 : l[p]?.getD 0 ≠ 0) : codeN l p + 1 ≤ firstC l (l[p]?.getD 0).toNat + l.count (l[p]?.getD 0) := by
  have := rank_lt l hp (Nat.le_refl _); rw [List.take_length] at this; unfold codeN; rw [if_neg h0]
  omega
theorem same_lt (l : List Int) {p q : Nat} (hq : q < l.length) (e : l[p]?.getD 0 = l[q]?.getD 0) (h0 : l[p]?.getD 0 ≠ 0) (hpq : p < q) : codeN l p < codeN l q := by
  have := rank_lt l hpq (Nat.le_of_lt hq); unfold codeN; rw [← e, if_neg h0, if_neg h0]
  omega
theorem byt_wf {l : List Int} (h : ∀ x ∈ l, (Lit.int .u8 x).wf = true) : Byt l := fun x hx => by
  have h2 : IntKind.u8.min ≤ x ∧ x ≤ IntKind.u8.max := by simpa [Lit.wf] using h x hx
  have e1 : IntKind.u8.min = 0 := by decide +kernel
  have e2 : IntKind.u8.max = 255 := by decide +kernel
  omega
def cX (l : List Int) (j : Nat) : Nat := firstC l j + if j = 0 then 0 else l.count (j : Int)
theorem cX_take (l : List Int) : ∀ j, j ≤ 15 → cX l j * 2 ^ (15 - j) + takeT l (15 - j) = takeT l 15
  | 0, _ => by unfold cX firstC; simp
  | j + 1, hj => by
    have ih := cX_take l j (by omega); have e : firstC l (j + 1) = cX l j * 2 := rfl
    have e1 : 15 - j = 15 - (j + 1) + 1 := by omega
    have e2 : takeT l (15 - j) = l.count ((j + 1 : Nat) : Int) * 2 ^ (15 - (j + 1)) + takeT l (15 - (j + 1)) := by
      rw [e1]
      show l.count ((15 - (15 - (j + 1)) : Nat) : Int) * 2 ^ (15 - (j + 1)) + takeT l (15 - (j + 1)) = _
      rw [show 15 - (15 - (j + 1)) = j + 1 by omega]
    have e3 : cX l (j + 1) = cX l j * 2 + l.count ((j + 1 : Nat) : Int) := by
      show firstC l (j + 1) + (if j + 1 = 0 then 0 else l.count ((j + 1 : Nat) : Int)) = _
      rw [if_neg (by omega), e]
    rw [e3, Nat.add_mul, ← ih, e2, e1, Nat.pow_succ, Nat.mul_assoc, Nat.mul_comm 2 (2 ^ _)]
    omega
-- YtgflkkjhckcipaaGreatDoorIf7
theorem orTwo (x b : Int) (h0 : 0 ≤ x) (h1 : x ≤ 1099511627776) (hb : b = 0 ∨ b = 1) : Go.bits .or .i64 (wrap64 (x * 2)) b = 2 * x + b := by
  rw [wrapid (by omega) (by omega)]; obtain ⟨c, rfl⟩ : ∃ c : Nat, x = (c : Int) := ⟨x.toNat, by omega⟩; obtain ⟨d, rfl⟩ : ∃ d : Nat, b = (d : Int) := ⟨b.toNat, by omega⟩; have h := Nat.two_pow_add_eq_or_of_lt (i := 1) (b := d) (by omega) c; rw [show (c : Int) * 2 = ((2 ^ 1 * c : Nat) : Int) by omega, i64orN _ d (by omega) (by omega), ← h]
  omega
def idxs (l : List Int) (a n : Nat) : List Nat := (List.range n).filter fun j => decide (l[j]?.getD 0 = (a : Int))
theorem idxs_succ (l : List Int) (a n : Nat) : idxs l a (n + 1) = idxs l a n ++ if l[n]?.getD 0 = (a : Int) then [n] else [] := by
  unfold idxs; rw [List.range_succ, List.filter_append, List.filter_cons, List.filter_nil]
  by_cases h : l[n]?.getD 0 = (a : Int)
  · rw [if_pos (decide_eq_true h), if_pos h]
  rw [if_neg (by rw [decide_eq_false h]; decide), if_neg h]
theorem idxs_len (l : List Int) (a : Nat) : ∀ n, n ≤ l.length → (idxs l a n).length = (l.take n).count (a : Int)
  | 0, _ => by simp [idxs]
  | n + 1, h => by
    rw [idxs_succ, List.length_append, idxs_len l a n (by omega), take_succ_getD l (by omega), List.count_append, List.count_singleton]
    by_cases e : l[n]?.getD 0 = (a : Int)
    · rw [if_pos e, if_pos (beq_iff_eq.mpr e)]; rfl
    · rw [if_neg e, if_neg (by rw [beq_iff_eq]; exact e)]; rfl
theorem idxs_get (l : List Int) (a : Nat) : ∀ n, n ≤ l.length → ∀ i, i < n → l[i]?.getD 0 = (a : Int) → (idxs l a n)[(l.take i).count (a : Int)]? = some i
  | 0, _, i, hi, _ => by omega
  | n + 1, h, i, hi, e => by
    rw [idxs_succ]
    by_cases h2 : i < n
    · have ih := idxs_get l a n (by omega) i h2 e; rw [List.getElem?_append_left (by rcases Nat.lt_or_ge ((l.take i).count (a : Int)) (idxs l a n).length with hh | hh; exact hh; rw [List.getElem?_eq_none hh] at ih; cases ih)]; exact ih
    · obtain rfl : i = n := by omega
      rw [List.getElem?_append_right (by rw [idxs_len l a i (by omega)]; exact Nat.le_refl _), idxs_len l a i (by omega), Nat.sub_self, if_pos e]
      rfl
theorem rank_at (l : List Int) (a : Nat) : ∀ n, n ≤ l.length → ∀ r, r < (l.take n).count (a : Int) → ∃ i, i < n ∧ l[i]?.getD 0 = (a : Int) ∧ (l.take i).count (a : Int) = r
  | 0, _, r, h => by simp at h
  | n + 1, hn, r, h => by
    by_cases h2 : r < (l.take n).count (a : Int)
    · obtain ⟨i, h3, h4, h5⟩ := rank_at l a n (by omega) r h2; exact ⟨i, by omega, h4, h5⟩
    · rw [take_succ_getD l (by omega), List.count_append, List.count_singleton] at h
      by_cases e : l[n]?.getD 0 = (a : Int)
      · rw [if_pos (beq_iff_eq.mpr e)] at h; exact ⟨n, by omega, e, by omega⟩
      · rw [if_neg (by rw [beq_iff_eq]; exact e)] at h
        omega
def frmC (l : List Int) : Nat → Nat
  | 0 => 0
  | j + 1 => frmC l j + l.count ((j + 1 : Nat) : Int)
theorem frmC_mono (l : List Int) {i j : Nat} (h : i ≤ j) : frmC l i ≤ frmC l j := by
  induction j with
  | zero => rw [show i = 0 by omega]; exact Nat.le_refl _
  | succ j ih =>
    rcases Nat.lt_or_ge i (j + 1) with h2 | h2
    · have := ih (by omega); rw [frmC]; omega
    rw [show i = j + 1 by omega]; exact Nat.le_refl _
theorem symsL_eq (l : List Int) : Hu.symsL l = ((List.range l.length).filter fun j => decide (l[j]?.getD 0 ≠ 0)).map fun (j : Nat) => (j : Int) := by
  unfold Hu.symsL Hu.usedL; rw [List.filter_map, List.map_map]
  rfl
theorem key_eq (l : List Int) {a : Nat} (h : 1 ≤ a) : (Hu.symsL l).filter (fun x => rd l x == (a : Int)) = (idxs l a l.length).map fun (j : Nat) => (j : Int) := by
  rw [symsL_eq, List.filter_map, List.filter_filter]; unfold idxs
  congr 1
  refine List.filter_congr (fun j _ => ?_)
  show ((rd l (j : Int) == (a : Int)) && decide (l[j]?.getD 0 ≠ 0)) = decide (l[j]?.getD 0 = (a : Int))
  rw [rdN]
  by_cases e : l[j]?.getD 0 = (a : Int)
  · rw [e, decide_eq_true (show (a : Int) ≠ 0 by omega)]; simp
  rw [decide_eq_false e, beq_eq_false_iff_ne.mpr e]; rfl
theorem key_zero (l : List Int) : (Hu.symsL l).filter (fun x => rd l x == ((0 : Nat) : Int)) = [] := by
  rw [symsL_eq, List.filter_map, List.filter_filter]; rw [List.filter_eq_nil_iff.2 (fun j _ => ?_)]
  · rfl
  show ¬ ((rd l (j : Int) == ((0 : Nat) : Int)) && decide (l[j]?.getD 0 ≠ 0)) = true
  rw [rdN]
  by_cases e : l[j]?.getD 0 = 0
  · rw [decide_eq_false (by rw [e]; simp)]; simp
  rw [beq_eq_false_iff_ne.mpr (show l[j]?.getD 0 ≠ ((0 : Nat) : Int) from e)]; simp
theorem keys_len (l : List Int) : ∀ n, (Hu.byKey (rd l) (Hu.symsL l) (List.range (n + 1))).length = frmC l n
  | 0 => by
    unfold Hu.byKey
    show (List.flatMap _ [0]).length = 0
    rw [List.flatMap_cons, List.flatMap_nil, List.append_nil, key_zero]; rfl
  | n + 1 => by
    have ih := keys_len l n; unfold Hu.byKey at ih ⊢; rw [List.range_succ, List.flatMap_append, List.length_append, ih, List.flatMap_cons, List.flatMap_nil, List.append_nil, key_eq l (by omega), List.length_map, idxs_len l (n + 1) l.length (Nat.le_refl _), List.take_length]
    rfl
theorem symsS_len (l : List Int) : (Hu.symsS l).length = frmC l 15 := keys_len l 15
theorem keys_split (l : List Int) (n : Nat) : ∀ d, ∃ X, Hu.byKey (rd l) (Hu.symsL l) (List.range (n + d)) = Hu.byKey (rd l) (Hu.symsL l) (List.range n) ++ X
  | 0 => ⟨[], (List.append_nil _).symm⟩
  | d + 1 => by
    obtain ⟨X, h⟩ := keys_split l n d; refine ⟨X ++ (Hu.symsL l).filter (fun x => rd l x == ((n + d : Nat) : Int)), ?_⟩; rw [← List.append_assoc, ← h]; unfold Hu.byKey; rw [show n + (d + 1) = (n + d) + 1 by omega, List.range_succ, List.flatMap_append, List.flatMap_cons, List.flatMap_nil, List.append_nil]
def symOf (l : List Int) (a v : Nat) : Int := rd (Hu.symsS l) ((frmC l (a - 1) + (v - firstC l a) : Nat) : Int)
theorem symsS_at (l : List Int) {a i : Nat} (h1 : 1 ≤ a) (h2 : a ≤ 15) (hi : i < l.length) (e : l[i]?.getD 0 = (a : Int)) : rd (Hu.symsS l) ((frmC l (a - 1) + (l.take i).count (a : Int) : Nat) : Int) = (i : Int) := by
  obtain ⟨X, hX⟩ := keys_split l (a + 1) (15 - a); rw [show a + 1 + (15 - a) = 16 by omega] at hX
  have hlen : (Hu.byKey (rd l) (Hu.symsL l) (List.range a)).length = frmC l (a - 1) := by
    have := keys_len l (a - 1)
    rwa [show a - 1 + 1 = a by omega] at this
  have hs : Hu.symsS l = Hu.byKey (rd l) (Hu.symsL l) (List.range a) ++ ((idxs l a l.length).map (fun (j : Nat) => (j : Int)) ++ X) := by
    unfold Hu.symsS; rw [hX, ← List.append_assoc]
    congr 1
    unfold Hu.byKey; rw [List.range_succ, List.flatMap_append, List.flatMap_cons, List.flatMap_nil, List.append_nil, key_eq l h1]
  have hg := idxs_get l a l.length (Nat.le_refl _) i hi e
  have hlt : (l.take i).count (a : Int) < (idxs l a l.length).length := by
    rcases Nat.lt_or_ge ((l.take i).count (a : Int)) (idxs l a l.length).length with hh | hh
    · exact hh
    rw [List.getElem?_eq_none hh] at hg; cases hg
  rw [rdN, hs, List.getElem?_append_right (by omega), hlen, Nat.add_sub_cancel_left, List.getElem?_append_left (by rw [List.length_map]; exact hlt), List.getElem?_map, hg]
  rfl
theorem cX_eq (l : List Int) {a : Nat} (h : 1 ≤ a) : cX l a = firstC l a + l.count (a : Int) := by unfold cX; rw [if_neg (by omega)]
theorem firstC_succ (l : List Int) (a : Nat) : firstC l (a + 1) = 2 * cX l a := by
  show (firstC l a + if a = 0 then 0 else l.count (a : Int)) * 2 = _
  unfold cX; omega
theorem sym_of (l : List Int) {a v : Nat} (h1 : 1 ≤ a) (h2 : a ≤ 15) (hv : firstC l a ≤ v) (hv2 : v < cX l a) : ∃ i, i < l.length ∧ l[i]?.getD 0 = (a : Int) ∧ codeN l i = v ∧ symOf l a v = (i : Int) := by
  rw [cX_eq l h1] at hv2; obtain ⟨i, hi, e, er⟩ := rank_at l a l.length (Nat.le_refl _) (v - firstC l a) (by rw [List.take_length]; omega); refine ⟨i, hi, e, ?_, ?_⟩
  · unfold codeN; rw [e, if_neg (by omega), Int.toNat_natCast, er]; omega
  have := symsS_at l h1 h2 hi e; rw [er] at this; exact this
theorem code_symOf (l : List Int) {a i : Nat} (h1 : 1 ≤ a) (h2 : a ≤ 15) (hi : i < l.length) (e : l[i]?.getD 0 = (a : Int)) : firstC l a ≤ codeN l i ∧ codeN l i < cX l a ∧ symOf l a (codeN l i) = (i : Int) := by
  have hc : codeN l i = firstC l a + (l.take i).count (a : Int) := by
    unfold codeN; rw [e, if_neg (by omega), Int.toNat_natCast]
  have h3 := code_lt l hi (by omega); rw [e, Int.toNat_natCast] at h3; refine ⟨by omega, by rw [cX_eq l h1]; omega, ?_⟩; unfold symOf; rw [hc, Nat.add_sub_cancel_left]; exact symsS_at l h1 h2 hi e
theorem begins_some (l : List Int) (hw : cX l 15 = 32768) : ∀ (d n v : Nat), n + d = 15 → 1 ≤ n → cX l n ≤ v → v < 2 ^ n → ∃ a i, n < a ∧ a ≤ 15 ∧ i < l.length ∧ l[i]?.getD 0 = (a : Int) ∧ codeN l i / 2 ^ (a - n) = v
  | 0, n, v, hd, _, h1, h2 => by
    obtain rfl : n = 15 := by omega
    rw [hw] at h1; omega
  | d + 1, n, v, hd, hn, h1, h2 => by
    by_cases h : 2 * v < cX l (n + 1)
    · obtain ⟨i, hi, e, ec, _⟩ := sym_of l (show 1 ≤ n + 1 by omega) (by omega) (by rw [firstC_succ]; omega) h; refine ⟨n + 1, i, by omega, by omega, hi, e, ?_⟩; rw [ec, Nat.add_sub_cancel_left, Nat.pow_one]; omega
    · obtain ⟨a, i, h3, h4, h5, h6, h7⟩ := begins_some l hw d (n + 1) (2 * v) (by omega) (by omega) (by omega) (by rw [Nat.pow_succ]; omega); refine ⟨a, i, by omega, h4, h5, h6, ?_⟩; rw [show a - n = (a - (n + 1)) + 1 by omega, Nat.pow_succ, ← Nat.div_div_eq_div_mul, h7]; omega
theorem bat_nat (b : List Int) (p : Nat) : ((bat b p).toNat : Int) = bat b p := by rcases bat_01 b p with h | h <;> rw [h] <;> rfl
theorem bat_le (b : List Int) (p : Nat) : (bat b p).toNat ≤ 1 := by rcases bat_01 b p with h | h <;> rw [h] <;> decide
def scan (l b : List Int) (m : Nat) : Nat → Nat → Nat → Int × Int × Int
  | 0, _, _ => (0, 0, 13)
  | d + 1, p, v => if m ≤ p then (0, 0, 4) else
      if 2 * v + (bat b p).toNat < cX l (15 - d) then (symOf l (15 - d) (2 * v + (bat b p).toNat), ((p + 1 : Nat) : Int), 0)
      else if frmC l (15 - d) = frmC l 15 then (0, 0, 13) else scan l b m d (p + 1) (2 * v + (bat b p).toNat)
theorem frmC_le (l : List Int) (hl : l.length ≤ 288) : ∀ j, frmC l j ≤ 288 * j
  | 0 => by simp [frmC]
  | j + 1 => by
    have ih := frmC_le l hl j; have hc : l.count ((j + 1 : Nat) : Int) ≤ 288 := Nat.le_trans List.count_le_length hl; rw [frmC]; omega
theorem frmC_pred (l : List Int) {a : Nat} (h : 1 ≤ a) : frmC l a = frmC l (a - 1) + l.count (a : Int) := by
  obtain ⟨j, rfl⟩ : ∃ j, a = j + 1 := ⟨a - 1, by omega⟩
  rfl
theorem get_one {b : List Int} {m p : Nat} (hb : Rgt b m) (hp : p ≤ m) : getS b (m : Int) (p : Int) 1 = if m ≤ p then (0, 4) else (bat b p, 0) := by
  unfold getS; rw [okR_nat hb, decide_eq_true (show (0 : Int) ≤ 1 by decide), decide_eq_true (show (1 : Int) ≤ 32 by decide), decide_eq_true (show (0 : Int) ≤ (p : Int) by omega), decide_eq_true (show (p : Int) ≤ (m : Int) by omega), if_pos (by decide)]
  by_cases h : m ≤ p
  · rw [if_pos (by omega), if_pos h]
  rw [if_neg (by omega), if_neg h, Int.toNat_natCast]
  show ((0 : Int) + bat b (p + 0) * 2 ^ 0, (0 : Int)) = _
  rw [Nat.add_zero, Int.pow_zero, Int.mul_one, Int.zero_add]
theorem w64_add (a b : Nat) (h : a + b ≤ 4611686018427387904) : wrap64 ((a : Int) + (b : Int)) = ((a + b : Nat) : Int) := by rw [wrap64_id (by omega) (by omega)]; omega
theorem w64_succ (a : Nat) (h : a ≤ 4611686018427387904) : wrap64 ((a : Int) + 1) = ((a + 1 : Nat) : Int) := by rw [wrap64_id (by omega) (by omega)]; omega
theorem w64_dbl (a : Nat) (h : a ≤ 2305843009213693952) : wrap64 ((a : Int) * 2) = ((2 * a : Nat) : Int) := by rw [wrap64_id (by omega) (by omega)]; omega
theorem w64_two (a : Nat) (h : a ≤ 2305843009213693952) : wrap64 (2 * (a : Int)) = ((2 * a : Nat) : Int) := by rw [wrap64_id (by omega) (by omega)]; omega
theorem w64_sub (a b : Nat) (h : b ≤ a) (ha : a ≤ 4611686018427387904) : wrap64 ((a : Int) - (b : Int)) = ((a - b : Nat) : Int) := by rw [wrap64_id (by omega) (by omega)]; omega
theorem w64_isub (a b : Nat) (hb : b ≤ 4611686018427387904) (ha : a ≤ 4611686018427387904) : wrap64 ((a : Int) - (b : Int)) = (a : Int) - (b : Int) := wrap64_id (by omega) (by omega)
theorem readL_eq {k : Nat} (hk : 40 ≤ k) {l b : List Int} {m : Nat} (hl : OKL l) (hb : Rgt b m) (hbl : b.length ≤ 140737488355328) :
    ∀ d p v, d ≤ 15 → p ≤ m → cX l (15 - d) ≤ v → v < 2 ^ (15 - d) → readL k (Hu.countedS l).1 (Hu.symsS l) b (m : Int) d (p : Int) (v : Int) ((cX l (15 - d) : Nat) : Int) ((frmC l (15 - d) : Nat) : Int) = some (scan l b m d p v)
  | 0, p, v, _, _, _, _ => rfl
  | d + 1, p, v, hd, hp, h1, h2 => by
    have hm : m ≤ 1125899906842624 := by have := hb.2.1; omega
    obtain ⟨L, hL⟩ : ∃ L, 15 - d = L := ⟨_, rfl⟩; obtain ⟨M, hM⟩ : ∃ M, 15 - (d + 1) = M := ⟨_, rfl⟩
    have hLM : L = M + 1 := by omega
    have hL15 : L ≤ 15 := by omega
    have hM15 : M < 15 := by omega
    have hfr := frmC_le l hl.2.1 15; have hmon := frmC_mono l hL15
    have hmon2 : frmC l L = frmC l M + l.count (L : Int) := by subst hLM; rfl
    have hcnt := counted_rd l hl L hL15; rw [if_neg (show ¬ L = 0 by omega)] at hcnt
    have hfc : firstC l L = 2 * cX l M := by subst hLM; exact firstC_succ l M
    have hcx : cX l L = firstC l L + l.count (L : Int) := cX_eq l (by omega); have hcl : l.count (L : Int) ≤ 288 := Nat.le_trans List.count_le_length hl.2.1; have hfl := firstC_lt l hl.2.1 (show L ≤ 16 by omega); rw [hM] at h1 h2 ⊢; have hv15 : v < 32768 := Nat.lt_of_lt_of_le h2 (Nat.le_trans (Nat.pow_le_pow_right (by omega) (show M ≤ 15 by omega)) (by decide)); rw [readL, scan, get_eq hk hb.1 hbl (by omega) (by omega), get_one hb hp, hL, hcnt]; simp only [Option.bind_some]
    by_cases hmp : m ≤ p
    · rw [if_pos hmp, if_pos hmp]
      rfl
    · rw [if_neg hmp, if_neg hmp, if_pos (show ((bat b p, (0 : Int)) : Int × Int).2 = 0 from rfl)]
      show (if wrap64 (Go.bits .or .i64 (wrap64 ((v : Int) * 2)) (bat b p) - wrap64 (((cX l M : Nat) : Int) * 2)) < _ then _ else _) = _
      rw [orTwo _ _ (by omega) (by omega) (bat_01 b p)]; have hbn := bat_nat b p; have hbl1 := bat_le b p; generalize (bat b p).toNat = t at hbn hbl1 ⊢; rw [← hbn]; obtain ⟨v', hv'⟩ : ∃ v', 2 * v + t = v' := ⟨_, rfl⟩
      have e1 : (2 * (v : Int) + (t : Int)) = (v' : Int) := by omega
      rw [e1, w64_dbl (cX l M) (by omega), show 2 * cX l M = firstC l L by omega, hv', w64_isub v' (firstC l L) (by omega) (by omega)]
      by_cases hf : v' < cX l L
      · rw [if_pos (by omega), if_pos hf, w64_add (frmC l M) v' (by omega), w64_sub (frmC l M + v') (firstC l L) (by omega) (by omega), show frmC l M + v' - firstC l L = frmC l (L - 1) + (v' - firstC l L) by rw [show L - 1 = M by omega]; omega]; rw [if_pos (by omega), if_pos (by rw [symsS_len, show L - 1 = M by omega]; omega), w64_succ p (by omega)]
        rfl
      · rw [if_neg (by omega), if_neg hf]; rw [w64_add (frmC l M) (l.count (L : Int)) (by omega), ← hmon2, w64_add (firstC l L) (l.count (L : Int)) (by omega), ← hcx, symsS_len]
        by_cases ht : frmC l L = frmC l 15
        · rw [if_pos (by omega), if_pos ht]
        · rw [if_neg (by omega), if_neg ht, w64_succ p (by omega)]; have ih := readL_eq hk hl hb hbl d (p + 1) v' (by omega) (by omega) (by rw [hL]; omega) (by rw [hL, hLM, Nat.pow_succ]; omega); rw [hL] at ih; exact ih
def readS (l b : List Int) (n p : Int) : Int × Int × Int := if okR b n = true ∧ 0 ≤ p ∧ p ≤ n then scan l b n.toNat 15 p.toNat 0 else (0, 0, 2)
theorem readF_eq {k : Nat} (hk : 40 ≤ k) {l b : List Int} {n : Int} (p : Int) (hl : OKL l) (hb : Byt b) (hbl : b.length ≤ 140737488355328) (h0 : -9223372036854775808 ≤ n) (h1 : n ≤ 9223372036854775807) :
    readF k (Hu.countedS l).1 (Hu.symsS l) b n p = some (readS l b n p) := by
  unfold readF readS; rw [check_eq (by omega) hb hbl h0 h1]; simp only [Option.bind_some]
  by_cases hok : okR b n = true
  rotate_left
  · rw [if_neg hok, if_neg (by decide), if_neg (fun h => hok h.1)]
  rw [if_pos hok, if_pos rfl]; obtain ⟨hn, hr⟩ := (okR_iff hb).1 hok
  by_cases hp : p < 0
  · rw [if_pos hp, if_neg (by omega)]
  rw [if_neg hp]
  by_cases hp2 : p > n
  · rw [if_pos hp2, if_neg (by omega)]
  rw [if_neg hp2, if_pos ⟨hok, by omega, by omega⟩]; obtain ⟨m, rfl⟩ : ∃ m : Nat, n = (m : Int) := ⟨n.toNat, by omega⟩; obtain ⟨q, rfl⟩ : ∃ q : Nat, p = (q : Int) := ⟨p.toNat, by omega⟩; rw [Int.toNat_natCast, Int.toNat_natCast]; rw [Int.toNat_natCast] at hr; exact readL_eq hk hl hr hbl 15 q 0 (by omega) (by omega) (by simp [cX, firstC]) (by decide)
def Tbl (l : List Int) : Prop := OKL l ∧ (Hu.checkS l = 0 ∨ Hu.checkS l = 12) ∧ (cX l 15 = 32768 ∨ frmC l 1 = frmC l 15)
theorem nz_len (l : List Int) : ∀ n, n ≤ l.length → ((List.range n).filter fun j => decide (l[j]?.getD 0 ≠ 0)).length = (l.take n).countP fun x => decide (x ≠ 0)
  | 0, _ => by simp
  | n + 1, h => by
    rw [List.range_succ, List.filter_append, List.length_append, nz_len l n (by omega), take_succ_getD l (by omega), List.countP_append, List.filter_cons, List.filter_nil, List.countP_cons, List.countP_nil]
    by_cases e : l[n]?.getD 0 = 0
    · simp [e]
    · simp [e]
theorem symsL_nz (l : List Int) : (Hu.symsL l).length = l.countP fun x => decide (x ≠ 0) := by
  rw [symsL_eq, List.length_map, nz_len l l.length (Nat.le_refl _), List.take_length]
theorem frmC_countP (l : List Int) : ∀ n, frmC l n = l.countP fun x => decide (1 ≤ x ∧ x ≤ (n : Int))
  | 0 => by
    rw [frmC, eq_comm, List.countP_eq_zero]; intro x _; rw [decide_eq_true_eq]; omega
  | n + 1 => by
    rw [frmC, frmC_countP l n]
    induction l with
    | nil => rfl
    | cons x l ih =>
      rw [List.countP_cons, List.countP_cons, List.count_cons, ← ih]
      by_cases h1 : x = ((n + 1 : Nat) : Int)
      · rw [if_neg (by rw [decide_eq_true_eq]; omega), if_pos (beq_iff_eq.mpr h1), if_pos (by rw [decide_eq_true_eq]; omega)]; omega
      · rw [if_neg (show ¬ (x == ((n + 1 : Nat) : Int)) = true by rw [beq_iff_eq]; exact h1)]
        by_cases h2 : 1 ≤ x ∧ x ≤ (n : Int)
        · rw [if_pos (decide_eq_true h2), if_pos (by rw [decide_eq_true_eq]; omega)]; omega
        · rw [if_neg (by rw [decide_eq_true_eq]; exact h2), if_neg (by rw [decide_eq_true_eq]; omega)]; omega
theorem frmC_le_syms (l : List Int) (n : Nat) : frmC l n ≤ (Hu.symsL l).length := by
  rw [frmC_countP, symsL_nz]; refine List.countP_mono_left (fun x _ h => ?_); rw [decide_eq_true_eq] at h ⊢
  omega
theorem tbl_of_new {l : List Int} (h : Hu.newS l = 0) : Tbl l := by
  unfold Hu.newS at h
  by_cases h2 : Hu.checkS l = 2
  · rw [if_pos h2] at h; omega
  rw [if_neg h2] at h
  by_cases h0 : Hu.checkS l = 0
  · have hl := okl_of_check (.inl h0); refine ⟨hl, .inl h0, .inl ?_⟩; have h3 := checkS_eq l hl; have h4 := cX_take l 15 (Nat.le_refl _)
    have h5 : takeT l 15 = 32768 := by
      rw [h0] at h3
      by_cases a : takeT l 15 > 32768
      · rw [if_pos a] at h3; omega
      rw [if_neg a] at h3
      by_cases b : takeT l 15 < 32768
      · rw [if_pos b] at h3; omega
      omega
    rw [Nat.sub_self, Nat.pow_zero, Nat.mul_one, takeT, h5] at h4
    omega
  by_cases hc : Hu.checkS l ≠ 0 ∧ (Hu.checkS l ≠ 12 ∨ (Hu.symsL l).length ≠ 1 ∨ rd (Hu.countedS l).1 1 ≠ 1)
  · rw [if_pos hc] at h; exact absurd h h0
  have h12 : Hu.checkS l = 12 := Decidable.byContradiction fun e => hc ⟨h0, .inl e⟩; have hs : (Hu.symsL l).length = 1 := Decidable.byContradiction fun e => hc ⟨h0, .inr (.inl e)⟩; have hr : rd (Hu.countedS l).1 1 = 1 := Decidable.byContradiction fun e => hc ⟨h0, .inr (.inr e)⟩; have hl := okl_of_check (.inr h12); refine ⟨hl, .inr h12, .inr ?_⟩; have h3 := counted_rd l hl 1 (by decide); rw [if_neg (by decide)] at h3; have h4 := frmC_le_syms l 15; have h5 := frmC_mono l (show 1 ≤ 15 by decide)
  have h6 : frmC l 1 = l.count ((1 : Nat) : Int) := by show 0 + l.count ((1 : Nat) : Int) = _; omega
  have h7 : rd (Hu.countedS l).1 ((1 : Nat) : Int) = 1 := hr
  omega
-- YtgflkkjhckcipaaGreatDoorIf8
def bitsM (l : List Int) (p n : Nat) : Except Int (Int × Nat) := if p + n ≤ 8 * l.length then .ok (getV l p n, p + n) else .error 4
def symM (l : List Int) (t : Option (List Int)) (p : Nat) : Except Int (Int × Nat) :=
  match t with
  | none => .error 13
  | some z => if (scan z l (8 * l.length) 15 p 0).2.2 = 0 then .ok ((scan z l (8 * l.length) 15 p 0).1, (scan z l (8 * l.length) 15 p 0).2.1.toNat) else .error (scan z l (8 * l.length) 15 p 0).2.2
def storedM (l : List Int) (most : Int) (p : Nat) (out : List Int) : Except Int (Nat × List Int) :=
  match bitsM l ((p + 7) / 8 * 8) 16 with
  | .error e => .error e
  | .ok (n, p1) => match bitsM l p1 16 with
    | .error e => .error e
    | .ok (m, p2) => if m ≠ 65535 - n then .error 5 else if n > most - (out.length : Int) then .error 3 else if ((8 * l.length - p2) / 8 : Nat) < n.toNat then .error 4 else .ok (p2 + 8 * n.toNat, out ++ (l.drop (p2 / 8)).take n.toNat)
def copyL (out : List Int) (far : Nat) : Nat → List Int
  | 0 => out
  | n + 1 => copyL out far n ++ [(copyL out far n).getD ((copyL out far n).length - far) 0]
def lenP (s : Int) : Option (Nat × Nat) := if s = 285 then some (0, 258) else if 257 ≤ s ∧ s ≤ 264 then some (0, (s - 254).toNat) else if 265 ≤ s ∧ s ≤ 284 then some (((s - 261) / 4).toNat, 2 ^ (((s - 261) / 4).toNat + 2) + 3 + ((s - 265) % 4).toNat * 2 ^ ((s - 261) / 4).toNat) else none
def distP (s : Int) : Option (Nat × Nat) := if 0 ≤ s ∧ s ≤ 3 then some (0, (s + 1).toNat) else if 4 ≤ s ∧ s ≤ 29 then some (((s - 2) / 2).toNat, 2 ^ (((s - 2) / 2).toNat + 1) + 1 + (s % 2).toNat * 2 ^ ((s - 2) / 2).toNat) else none
def copiedM (l : List Int) (most : Int) (dist : Option (List Int)) (s : Int) (p : Nat) (out : List Int) : Except Int (Nat × List Int) :=
  match lenP s with
  | none => .error 13
  | some (k, base) => match bitsM l p k with
    | .error e => .error e
    | .ok (x, p1) => match symM l dist p1 with
      | .error e => .error e
      | .ok (d, p2) => match distP d with
        | none => .error 13
        | some (kd, bd) => match bitsM l p2 kd with
          | .error e => .error e
          | .ok (y, p3) => if bd + y.toNat > out.length then .error 14 else if ((base + x.toNat : Nat) : Int) > most - (out.length : Int) then .error 3 else .ok (p3, copyL out (bd + y.toNat) (base + x.toNat))
def symbolsM (l : List Int) (most : Int) (lit : List Int) (dist : Option (List Int)) : Nat → Nat → List Int → Except Int (Nat × List Int)
  | 0, _, _ => .error 0
  | k + 1, p, out => match symM l (some lit) p with
    | .error e => .error e
    | .ok (s, p1) => if s = 256 then .ok (p1, out) else if s > 256 then (match copiedM l most dist s p1 out with
        | .error e => .error e
        | .ok (p2, out2) => symbolsM l most lit dist k p2 out2)
      else if 1 > most - (out.length : Int) then .error 3 else symbolsM l most lit dist k p1 (out ++ [s])
structure RowOk (w0 : World) (A : Option Addr) (c : Nat) (l : List Int) : Prop where
  C : (Kd.int .u8).C w0 A l.length l
  cap : l.length ≤ c
  byt : Byt l
  len : l.length ≤ 1000000
abbrev NN (l : List Int) : Int := ((8 * l.length : Nat) : Int)
def ToldV (w0 w : World) (g : Nat) (A : Option Addr) (c : Nat) (l : List Int) (v : Value) (out : List Int) (most : Int) (e : Ending) (w' : World) : Except Int (Int × Nat) → Prop
  | .ok (x, p') => e = .returned (.int .i64 x) ∧ p' ≤ 8 * l.length ∧ RdrAt w0 w' g A c l (NN l) ((p' : Nat) : Int) v out most ∧ Moved w w' g v v
  | .error er => Gives w0.heap.size w w' er e
theorem okR_whole {l : List Int} (hb : Byt l) : okR l (NN l) = true := okR_nat (rgt_whole hb)
theorem getS_at {l : List Int} (hb : Byt l) {p n : Nat} (hp : p ≤ 8 * l.length) (hn : n ≤ 32) : getS l (NN l) (p : Int) (n : Int) = if p + n ≤ 8 * l.length then (getV l p n, 0) else (0, 4) := by
  unfold getS NN; rw [okR_nat (rgt_whole hb), if_pos (by simp only [Bool.true_and, Bool.and_eq_true, decide_eq_true_eq]; omega)]
  by_cases h : p + n ≤ 8 * l.length
  · rw [if_neg (by omega), if_pos h, Int.toNat_natCast, Int.toNat_natCast]
  rw [if_pos (by omega), if_neg h]
theorem getV_bound (l : List Int) (p n : Nat) (hn : n ≤ 32) : 0 ≤ getV l p n ∧ getV l p n < 4294967296 := by
  have h := getV_range l p n; have h2 : (2 : Int) ^ n ≤ 2 ^ 32 := pow_le2 hn
  omega
theorem rbits_told {w0 : World} {A : Option Addr} {c : Nat} {l : List Int} (hr : RowOk w0 A c l) (w : World) (g p n : Nat) (v : Value) (out : List Int) (most : Int) (H : RdrAt w0 w g A c l (NN l) (p : Int) v out most) (hp : p ≤ 8 * l.length) (hn : n ≤ 32) :
    Calls Tryz.prog 17 #[.pointer (some ⟨g, 0, none⟩), .int .i64 (n : Int)] w fun e w' => ToldV w0 w g A c l v out most e w' (bitsM l p n) := by
  have hlen := hr.len; have hf := get_eq (k := 40) (Nat.le_refl _) (l := l) (n := NN l) (a := (p : Int)) (c := (n : Int)) hr.byt (by omega) (by unfold NN; omega) (by unfold NN; omega); rw [getS_at hr.byt hp hn] at hf; unfold bitsM
  by_cases h : p + n ≤ 8 * l.length
  · rw [if_pos h] at hf ⊢; refine (rbits_calls 40 w0 A c l hr.C hr.cap w g _ _ v out most _ _ _ H hf).mono ?_; rintro e w' (⟨_, he, hat, hm⟩ | ⟨hne, _⟩)
    · have e1 : wrap64 ((p : Int) + (n : Int)) = ((p + n : Nat) : Int) := by rw [wrap64_id (by omega) (by omega)]; omega
      rw [e1] at hat; exact ⟨he, h, hat, hm⟩
    exact absurd rfl hne
  rw [if_neg h] at hf ⊢; refine (rbits_calls 40 w0 A c l hr.C hr.cap w g _ _ v out most _ _ _ H hf).mono ?_; rintro e w' (⟨h0, _⟩ | ⟨_, hg⟩)
  · exact absurd h0 (by decide)
  exact hg
theorem scan_place (z b : List Int) (m : Nat) : ∀ d p v, d ≤ 15 → p ≤ m → (scan z b m d p v).2.2 = 0 → ∃ q : Nat, (scan z b m d p v).2.1 = (q : Int) ∧ p < q ∧ q ≤ m
  | 0, p, v, _, _, h => by simp [scan] at h
  | d + 1, p, v, hd, hp, h => by
    unfold scan at h ⊢
    split
    · next h1 => rw [if_pos h1] at h; simp at h
    · next h1 =>
      rw [if_neg h1] at h
      split
      · next h2 => exact ⟨p + 1, rfl, by omega, by omega⟩
      · next h2 =>
        rw [if_neg h2] at h
        split
        · next h3 => rw [if_pos h3] at h; simp at h
        · next h3 =>
          rw [if_neg h3] at h; obtain ⟨q, e, h4, h5⟩ := scan_place z b m d (p + 1) _ (by omega) (by omega) h; exact ⟨q, e, by omega, h5⟩
theorem rsym_told {w0 : World} {A : Option Addr} {c : Nat} {l : List Int} (hr : RowOk w0 A c l) (w : World) (g p gt : Nat) (z : List Int) (v : Value) (out : List Int) (most : Int) (H : RdrAt w0 w g A c l (NN l) (p : Int) v out most) (hp : p ≤ 8 * l.length) (hz : OKL z) (hT : TabIn w gt (Hu.countedS z).1 (Hu.symsS z)) :
    Calls Tryz.prog 44 #[.pointer (some ⟨g, 0, none⟩), .pointer (some ⟨gt, 0, none⟩)] w fun e w' => ToldV w0 w g A c l v out most e w' (symM l (some z) p) := by
  have hlen := hr.len; have hf := readF_eq (k := 40) (Nat.le_refl _) (l := z) (b := l) (n := NN l) ((p : Nat) : Int) hz hr.byt (by omega) (by unfold NN; omega) (by unfold NN; omega); unfold readS at hf; rw [if_pos ⟨okR_whole hr.byt, by omega, by unfold NN; omega⟩, Int.toNat_natCast] at hf; unfold NN at hf; rw [Int.toNat_natCast] at hf; have hs := scan_place z l (8 * l.length) 15 p 0 (by omega) hp; rw [show symM l (some z) p = (if (scan z l (8 * l.length) 15 p 0).2.2 = 0 then .ok ((scan z l (8 * l.length) 15 p 0).1, (scan z l (8 * l.length) 15 p 0).2.1.toNat) else .error (scan z l (8 * l.length) 15 p 0).2.2) from rfl]; generalize scan z l (8 * l.length) 15 p 0 = r at *; obtain ⟨r1, r2, r3⟩ := r; refine (rsym_calls 40 w0 A c l hr.C hr.cap w g _ _ v out most gt _ _ r1 r2 r3 H hT.at_ hf).mono ?_; rintro e w' (⟨h0, he, hat, hm⟩ | ⟨h0, hg⟩)
  · obtain ⟨q, e2, h4, h5⟩ := hs h0; dsimp only at e2 ⊢; rw [if_pos h0]; subst e2; exact ⟨he, by rw [Int.toNat_natCast]; exact h5, by rw [Int.toNat_natCast]; exact hat, hm⟩
  dsimp only; rw [if_neg h0]; exact hg
theorem rsym_none {w0 : World} {A : Option Addr} {c : Nat} {l : List Int} (hr : RowOk w0 A c l) (w : World) (g p : Nat) (v : Value) (out : List Int) (most : Int) (H : RdrAt w0 w g A c l (NN l) (p : Int) v out most) :
    Calls Tryz.prog 44 #[.pointer (some ⟨g, 0, none⟩), .pointer none] w fun e w' => ToldV w0 w g A c l v out most e w' (symM l none p) :=
  rsym_nil w0 A c l hr.C hr.cap w g _ _ v out most H
def CodeIn (w : World) : Value → Option (List Int) → Prop
  | .pointer none, none => True
  | .pointer (some a), some z => OKL z ∧ a = ⟨a.block, 0, none⟩ ∧ TabIn w a.block (Hu.countedS z).1 (Hu.symsS z)
  | _, _ => False
-- YtgflkkjhckcipaaGreatDoorIf9
theorem rbits_told' {w0 : World} {A : Option Addr} {c : Nat} {l : List Int} (hr : RowOk w0 A c l) (w : World) (g p n : Nat) (m : Int) (hm : m = (n : Int)) (v : Value) (out : List Int) (most : Int) (H : RdrAt w0 w g A c l (NN l) (p : Int) v out most) (hp : p ≤ 8 * l.length) (hn : n ≤ 32) :
    Calls Tryz.prog 17 #[.pointer (some ⟨g, 0, none⟩), .int .i64 m] w fun e w' => ToldV w0 w g A c l v out most e w' (bitsM l p n) := by
  subst hm; exact rbits_told hr w g p n v out most H hp hn
def ToldO (w0 w : World) (g : Nat) (A : Option Addr) (c : Nat) (l : List Int) (v : Value) (most : Int) (e : Ending) (w' : World) : Except Int (Nat × List Int) → Prop
  | .ok (p', out') => e = .returned (.tuple #[]) ∧ p' ≤ 8 * l.length ∧ ∃ v', RdrAt w0 w' g A c l (NN l) ((p' : Nat) : Int) v' out' most ∧ Moved w w' g v v'
  | .error er => Gives w0.heap.size w w' er e
theorem bitsM_ok {l : List Int} {p n : Nat} {x : Int} {p' : Nat} (h : bitsM l p n = .ok (x, p')) : x = getV l p n ∧ p' = p + n ∧ p + n ≤ 8 * l.length := by
  unfold bitsM at h; split at h
  · injection h with h
    injection h with h1 h2
    exact ⟨h1.symm, h2.symm, by assumption⟩
  cases h
theorem and_mask8 (x : Nat) (hx : x < 2 ^ 60) : x &&& 18446744073709551608 = x / 8 * 8 := by
  have e : 18446744073709551608 = (2 ^ 61 - 1) <<< 3 := by decide
  have e2 : x / 8 * 8 = (x >>> 3) <<< 3 := by rw [Nat.shiftLeft_eq, Nat.shiftRight_eq_div_pow]
  rw [e, e2]
  apply Nat.eq_of_testBit_eq
  intro i; rw [Nat.testBit_and, Nat.testBit_shiftLeft, Nat.testBit_shiftLeft, Nat.testBit_shiftRight, Nat.testBit_two_pow_sub_one]
  by_cases h : 3 ≤ i
  · have e3 : 3 + (i - 3) = i := by omega
    rw [e3]
    by_cases h2 : i - 3 < 61
    · simp [h, h2]
    have : x.testBit i = false := Nat.testBit_lt_two_pow (Nat.lt_of_lt_of_le hx (Nat.pow_le_pow_right (by omega) (by omega)))
    simp [this]
  simp [h]
theorem andNot7 (p : Nat) (hp : p ≤ 100000000) : Go.bits .andNot .i64 (wrap64 ((p : Int) + 7)) 7 = (((p + 7) / 8 * 8 : Nat) : Int) := by
  rw [wrap64_id (by omega) (by omega), show (p : Int) + 7 = ((p + 7 : Nat) : Int) by omega]
  show IntKind.i64.wrap ((BitVec.ofInt 64 ((p + 7 : Nat) : Int) &&& ~~~BitVec.ofInt 64 7).toNat : Int) = _
  have h7 : (BitVec.ofInt 64 7).toNat = 7 := by decide
  rw [BitVec.toNat_and, BitVec.toNat_not, i64of (p + 7) (by omega), h7, show 2 ^ 64 - 1 - 7 = 18446744073709551608 by decide, and_mask8 (p + 7) (by omega), IntKind.wrap_i64]
  omega
theorem xor16 (x : Int) (h0 : 0 ≤ x) (h1 : x < 65536) : Go.bits .xor .i64 x 65535 = 65535 - x := by
  obtain ⟨n, rfl⟩ : ∃ n : Nat, x = (n : Int) := ⟨x.toNat, by omega⟩
  show IntKind.i64.wrap ((BitVec.ofInt 64 (n : Int) ^^^ BitVec.ofInt 64 65535).toNat : Int) = _
  have h7 : (BitVec.ofInt 64 65535).toNat = 65535 := by decide
  have e : n ^^^ 65535 = 65535 - n := by
    have h := congrArg BitVec.toNat (BitVec.xor_allOnes (x := BitVec.ofNat 16 n)); rw [BitVec.toNat_xor, BitVec.toNat_not, BitVec.toNat_allOnes, BitVec.toNat_ofNat, Nat.mod_eq_of_lt (by omega)] at h; exact h
  rw [BitVec.toNat_xor, i64of n (by omega), h7, e, IntKind.wrap_i64]
  omega
theorem RdrAt.between {w0 w w1 : World} {g c c1 : Nat} {A A1 : Option Addr} {l l1 : List Int} {N at_ N1 at1 : Int} {v v1 : Value} {out out1 : List Int} {most most1 : Int} (H : RdrAt w0 w g A c l N at_ v out most) (H1 : RdrAt w0 w1 g A1 c1 l1 N1 at1 v1 out1 most1) (hs : w.heap.size ≤ w1.heap.size) : Below w0.heap.size w w1 :=
  ⟨H1.below.os.trans H.below.os.symm, H1.below.tape.trans H.below.tape.symm, H1.below.output.trans H.below.output.symm, hs, fun k hk => (H1.below.block k hk).trans (H.below.block k hk).symm⟩
theorem rdr_c2 {w0 w : World} {g c : Nat} {A : Option Addr} {l : List Int} {N at_ : Int} {v : Value} {out : List Int} {most : Int} (H : RdrAt w0 w g A c l N at_ v out most) : w.cell? ⟨g, 2, none⟩ = some (.int .i64 at_) ∧ w.frozen? ⟨g, 2, none⟩ = false ∧ w.cell? ⟨g, 3, none⟩ = some v ∧ w.frozen? ⟨g, 3, none⟩ = false := ⟨(blk_cell H.blk 2).trans rfl, blk_frozen H.blk 2, (blk_cell H.blk 3).trans rfl, blk_frozen H.blk 3⟩
theorem RdrAt.appended {w0 w w6 : World} {g c : Nat} {A : Option Addr} {l : List Int} {N at_ : Int} {v v1 : Value} {out ys : List Int} {most : Int} (H : RdrAt w0 w g A c l N at_ v out most) (ho : (Kd.int .u8).R 5 w6 w0.heap.size (fun _ => True) v1 ys) (hb : Below w0.heap.size w0 w6) (hg : w.grownBy w6 v.ownBlock) (hat : v1.ownBlock = v.ownBlock ∨ ∃ b, v1.ownBlock = some b ∧ w.heap.size ≤ b) :
    RdrAt w0 (w6.setCell ⟨g, 3, none⟩ v1) g A c l N at_ v1 ys most ∧ Moved w (w6.setCell ⟨g, 3, none⟩ v1) g v v1 := by
  have hbg := blk_grown H.blk hg (Kd.R_ne H.row H.blk (by decide)); refine ⟨⟨hb.setCell (p := ⟨g, 3, none⟩) H.ge _, H.ge, blk_set hbg 3 _, Kd.R_set ho hbg (by decide) 3 _⟩, ⟨by simpa [World.setCell] using hg.size, fun k hk hkg ho => (Below.heap_setCell w6 ⟨g, 3, none⟩ v1 k hkg).trans (hg.block k hk ho), ?_⟩⟩
  rcases hat with e | ⟨b, e, hb⟩
  · exact .inl e
  exact .inr ⟨b, hb, e⟩
theorem room_full {w0 : World} {A : Option Addr} {c : Nat} {l : List Int} (hr : RowOk w0 A c l) (w : World) (g : Nat) (p : Nat) (v : Value) (out : List Int) (most n : Int) (H : RdrAt w0 w g A c l (NN l) (p : Int) v out most) (hm0 : (out.length : Int) ≤ most) (hm1 : most ≤ 65536) (hn : n > most - (out.length : Int)) :
    Calls Tryz.prog 32 #[.pointer (some ⟨g, 0, none⟩), .int .i64 n] w fun e w' => Gives w0.heap.size w w' 3 e := by
  have e : wrap64 (most - (out.length : Int)) = most - (out.length : Int) := wrap64_id (by omega) (by omega); refine (room_calls w0 A c l hr.C hr.cap w g _ _ v out most n H).mono ?_; rw [e]; rintro e w' (⟨h1, h2⟩ | ⟨h1, h2⟩)
  · exact absurd hn h1
  exact h2
theorem room_ok {w0 : World} {A : Option Addr} {c : Nat} {l : List Int} (hr : RowOk w0 A c l) (w : World) (g : Nat) (p : Nat) (v : Value) (out : List Int) (most n : Int) (H : RdrAt w0 w g A c l (NN l) (p : Int) v out most) (hm0 : (out.length : Int) ≤ most) (hm1 : most ≤ 65536) (hn : ¬ n > most - (out.length : Int)) :
    Calls Tryz.prog 32 #[.pointer (some ⟨g, 0, none⟩), .int .i64 n] w fun e w' => e = .returned (.tuple #[]) ∧ Below w.heap.size w w' := by
  have e : wrap64 (most - (out.length : Int)) = most - (out.length : Int) := wrap64_id (by omega) (by omega); refine (room_calls w0 A c l hr.C hr.cap w g _ _ v out most n H).mono ?_; rw [e]; rintro e w' (⟨h1, h2⟩ | ⟨h1, h2⟩)
  · exact h2
  exact absurd h1 hn
end Go.Proofs.YtgflkkjhckcipaaGreatDoor.Pr

