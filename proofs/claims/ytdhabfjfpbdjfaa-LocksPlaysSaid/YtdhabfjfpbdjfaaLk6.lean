-- A text by hand (wip/locks).
import Derived.RangeFuncNested
import Derived.RangeFuncBound
import Derived.RangeFuncCalls
import Derived.RangeFuncLeaves
import Derived.RangeFuncBox
import Derived.Shelf.Abstract
import Derived.Shelf.RegionOpen
import Derived.OwnWalkIn
import Derived.TacticsInMore
import Derived.LoopNIn
import Derived.LoopIn
import Derived.Test.YtdhabfjfpbdjfaaPr0
import Derived.Test.YtdhabfjfpbdjfaaLk5
namespace Go.Proofs.Ytdhabfjfpbdjfaa.Pr
open Go.RowKit Go.Shelf Go.Proofs.YtdhabfjfpbdjfaaW.PrintWords Go.Proofs.YtdhabfjfpbdjfaaW.PrintLast Go.Proofs.YtdhabfjfpbdjfaaW.PrintMore
set_option linter.unusedVariables false
set_option linter.unusedSimpArgs false

/-- Those of a row who are not one. -/
def notF (xs : List S63) (who : Int) : List S63 := xs.filter fun x => decide (x.f0 ≠ who)
theorem notF_snoc (xs : List S63) (x : S63) (who : Int) : notF (xs ++ [x]) who = notF xs who ++ if x.f0 = who then [] else [x] := by
  unfold notF
  rw [List.filter_append, List.filter_cons, List.filter_nil]
  by_cases h : x.f0 = who
  · simp [h]
  · simp [h]
theorem notF_all {xs : List S63} {who : Int} (h : ∀ x ∈ xs, x.f0 ≠ who) : notF xs who = xs := List.filter_eq_self.2 (fun x hx => decide_eq_true (h x hx))
/-- The row while it is being cut: i are kept of the first j. -/
def Cut (xs : List S63) (who : Int) (d : List S63) (i j : Nat) : Prop := d.length = xs.length ∧ i < j ∧ j ≤ xs.length ∧ d.take i = notF (xs.take j) who ∧ d.drop j = xs.drop j
theorem Cut.at_ {xs d : List S63} {who : Int} {i j : Nat} (h : Cut xs who d i j) (hj : j < xs.length) : rd_T63 d (j : Int) = rd_T63 xs (j : Int) := by
  obtain ⟨h1, h2, h3, h4, h5⟩ := h
  have e1 := rdA_at (xs := d) (k := j) (by omega)
  have e2 := rdA_at hj
  have e3 : d[j]? = xs[j]? := by
    have := congrArg (fun l => l[0]?) h5
    simpa [List.getElem?_drop] using this
  rw [e1, e2] at e3
  injection e3
theorem Cut.skip {xs d : List S63} {who : Int} {i j : Nat} (h : Cut xs who d i j) (hj : j < xs.length) (hw : (rd_T63 xs (j : Int)).f0 = who) : Cut xs who d i (j + 1) := by
  obtain ⟨h1, h2, h3, h4, h5⟩ := h
  refine ⟨h1, by omega, hj, ?_, ?_⟩
  · rw [h4, takeA xs hj, notF_snoc, if_pos hw, List.append_nil]
  · rw [← List.drop_drop, ← List.drop_drop, h5]
theorem Cut.keep {xs d : List S63} {who : Int} {i j : Nat} (h : Cut xs who d i j) (hj : j < xs.length) (hw : (rd_T63 xs (j : Int)).f0 ≠ who) : Cut xs who (d.set i (rd_T63 xs (j : Int))) (i + 1) (j + 1) := by
  obtain ⟨h1, h2, h3, h4, h5⟩ := h
  refine ⟨by rw [List.length_set]; exact h1, by omega, hj, ?_, ?_⟩
  · have e1 := takeA (d.set i (rd_T63 xs (j : Int))) (k := i) (by rw [List.length_set]; omega)
    rw [e1, List.take_set, List.set_eq_of_length_le (by rw [List.length_take]; omega), h4, takeA xs hj, notF_snoc, if_neg hw]
    congr 1
    unfold rd_T63
    rw [Int.toNat_natCast, List.getD_eq_getElem?_getD, Int.toNat_natCast, List.getElem?_set_self (by omega)]
    rfl
  · rw [List.drop_set_of_lt (by omega), ← List.drop_drop, ← List.drop_drop, h5]
theorem Cut.start {xs : List S63} {who : Int} {i : Nat} (hi : i < xs.length) (hw : (rd_T63 xs (i : Int)).f0 = who) (hn : ∀ x ∈ xs.take i, x.f0 ≠ who) : Cut xs who xs i (i + 1) := by
  refine ⟨rfl, by omega, hi, ?_, rfl⟩
  rw [takeA xs hi, notF_snoc, if_pos hw, List.append_nil, notF_all hn]
theorem Cut.done {xs d : List S63} {who : Int} {i : Nat} (h : Cut xs who d i xs.length) : d.take i = notF xs who ∧ i < xs.length := by
  obtain ⟨h1, h2, h3, h4, h5⟩ := h
  rw [List.take_length] at h4
  exact ⟨h4, h2⟩
theorem asked_clear {W : World} {base : Nat} {ok : Nat → Prop} {go len cap : Nat} {d : List S63} (h : Kd.R k63 63 W base ok (.slice (some ⟨go, 0, none⟩) len cap) d) (i : Nat) (hi : i < len) (c2 : Nat) :
    ∃ w1, (Builtin.clear_ #[56] 0 #[.slice (some ⟨go, i * 2, none⟩) (len - i) c2]).run Try.prog W = .ok (.tuple #[]) w1 ∧ Kd.R k63 63 w1 base ok (.slice (some ⟨go, 0, none⟩) i cap) (d.take i) ∧ W.grownBy w1 (some go) := by
  have hn := (Kd.R_reads' h).1
  have h0 := h
  obtain ⟨hok, inner, hown, hr⟩ := h0
  rcases hown.2 with ⟨hv, _⟩ | ⟨g', cap', cur, hv, hb, hh, hlc, hcm, hcs, htake⟩
  · cases hv
  injection hv with ha _ hc
  injection ha with ha
  injection ha with hg
  subst hg; subst hc
  have hcs2 : cur.size = cap * 2 := hcs
  obtain ⟨seg, hsl, hrun⟩ := run_clear W (o := i * 2) (m := len - i) (c2 := c2) hh (by omega) (by omega)
  have he := asked_end h i (by omega) seg (by omega)
  exact ⟨_, hrun, he.1, he.2⟩
theorem grown_trans {w w1 w2 : World} {row : Option Nat} (h : w.grownBy w1 row) (k : w1.grownBy w2 row) : w.grownBy w2 row := ⟨k.os.trans h.os, k.tape.trans h.tape, k.output.trans h.output, Nat.le_trans h.size k.size, fun i hi hne => (k.block i (Nat.lt_of_lt_of_le hi h.size) hne).trans (h.block i hi hne)⟩
theorem grown_below {w w1 w2 : World} {row : Option Nat} (h : w.grownBy w1 row) (k : Below w1.heap.size w1 w2) : w.grownBy w2 row := ⟨k.os.trans h.os, k.tape.trans h.tape, k.output.trans h.output, Nat.le_trans h.size k.size, fun i hi hne => (k.block i (Nat.lt_of_lt_of_le hi h.size)).trans (h.block i hi hne)⟩
section
attribute [local go_sem] Oper.semAt_some
set_option maxRecDepth 100000 in
set_option maxHeartbeats 8000000 in
theorem del_calls (gw : Nat) (v : Value) (xs : List S63) (who : Int) (base : Nat) (ok : Nat → Prop) (w : World) (hO : Kd.R k63 63 w base ok v xs) (hw : w.heap[gw]? = some (cellW who)) (hl : xs.length ≤ 1048576) :
    Calls Try.prog 24 #[v, .func (.func 22) #[] #[.pointer (some ⟨gw, 0, none⟩)]] w fun e w' => ∃ v', e = .returned v' ∧ Kd.R k63 63 w' base ok v' (notF xs who) ∧ w.grownBy w' v.ownBlock ∧ v'.ownBlock = v.ownBlock := by
  obtain ⟨A, cap, ev⟩ := Kd.R_slice hO
  subst ev
  have HO := Aside0.mk hO
  have HW := Aside0.mk hw
  clear hO hw
  go_enter Try.func24, Try.ntmps24
  go_upto_region 2 with (go_at_call 30; refine (idx_calls gw A cap xs who _ (Kd.R_reads' HO.out).2.2 HW.out hl).mono ?_; rintro e w3 ⟨⟨r, rfl, hr⟩, hb⟩; have HR := Aside0.mk hr; have HB := Aside0.mk hb; clear hr hb)
  by_cases hr1 : r = -1
  · have hrb : (r == -1) = true := beq_iff_eq.mpr hr1
    have HN := Aside0.mk (show ∀ x ∈ xs, x.f0 ≠ who by
      rcases HR.out with ⟨_, h⟩ | ⟨i, h, _⟩
      · exact h
      · omega)
    clear hr1
    go_wp2
    go_ret
    exact ⟨_, rfl, by rw [notF_all HN.out]; exact Kd.R_below HO.out HB.out, grown_of_below HB.out _, rfl⟩
  · obtain ⟨i0, hi0, hi1, hi2, hi3⟩ : ∃ i : Nat, r = (i : Int) ∧ i < xs.length ∧ (rd_T63 xs (i : Int)).f0 = who ∧ ∀ x ∈ xs.take i, x.f0 ≠ who := by
      rcases HR.out with ⟨h, _⟩ | h
      · exact absurd h hr1
      · exact h
    have hrb : (r == -1) = false := beq_eq_false_iff_ne.mpr hr1
    subst hi0
    obtain ⟨go, cap', ev, hgb, hgl, _⟩ := Kd.R_form HO.out (by omega)
    injection ev with ev1 _ ev3
    subst ev1
    subst ev3
    have HC := Aside0.mk (Cut.start hi1 hi2 hi3)
    obtain ⟨len, hlen⟩ : ∃ len, xs.length = len := ⟨_, rfl⟩
    have HLEN := Aside0.mk hlen
    have HO3 := Aside0.mk (show Kd.R k63 63 w3 base ok (.slice (some ⟨go, 0, none⟩) len cap) xs by have := Kd.R_below HO.out HB.out; rw [hlen] at this; exact this)
    have HG := Aside0.mk (show w.grownBy w3 (some go) from grown_of_below HB.out _)
    have HW3 := Aside0.mk (blk_below HW.out HB.out)
    have hl2 : len ≤ 1048576 := by omega
    have hi1' : i0 < len := by omega
    rw [hlen]
    clear hr1 hi1 hi2 hi3 hgb hgl HO HB HW HR hlen hl
    go_wp2
    go_loopw [5, 6] (fun v5 v6 w' => ∃ (i j : Nat) (d : List S63), i < j ∧ j ≤ len ∧ v5 = .int .i64 (i : Int) ∧ v6 = .int .i64 (j : Int) ∧ Aside0 (Cut xs who d i j) ∧ Aside0 (Kd.R k63 63 w' base ok (.slice (some ⟨go, 0, none⟩) len cap) d) ∧ Aside0 (w.grownBy w' (some go)) ∧ Aside0 (w'.heap[gw]? = some (cellW who)))
      (fun _ v6 _ => len + 1 - (intOf v6).toNat)
    case atStart => exact ⟨i0, i0 + 1, xs, by omega, by omega, rfl, by first | rfl | (simp; done), HC, HO3, HG, HW3⟩
    case round =>
      clear HC HO3 HG HW3 hi1'
      obtain ⟨i, j, d, hij, hjl, rfl, rfl, HC, HO, HG, HW⟩ := hrel
      by_cases hlt : j < len
      · obtain ⟨⟨hx0, hx1⟩, _⟩ := asked_at HO.out j hlt
        rw [HC.out.at_ (by rw [HLEN.out]; exact hlt)] at hx0 hx1
        obtain ⟨⟨x0, x1⟩, hx⟩ : ∃ x, rd_T63 xs (j : Int) = x := ⟨_, rfl⟩
        rw [hx] at hx0 hx1
        have HX := Aside0.mk hx
        have HJ := Aside0.mk (show j < xs.length by rw [HLEN.out]; exact hlt)
        have q0 := eq_true (show (j : Int) < (len : Int) by omega)
        have q1 := eq_true (show (0 : Int) ≤ (j : Int) by omega)
        have q2 := eq_true hlt
        have hgw := blk_alloc HW.out (.cells #[.int .i64 x0, .bool x1] 63 (0, 0))
        clear hx
        by_cases hq : x0 = who
        · have hqb : (x0 == who) = true := beq_iff_eq.mpr hq
          have HQ := Aside0.mk hq
          clear hq
          go_wp2_with (go_at_call 22; refine (free1_calls gw who x0 x1 _ hgw).mono ?_; rintro e w4 ⟨rfl, hb⟩; have hb2 := below_then (below_alloc (Below.refl wr.heap.size wr) (.cells #[.int .i64 x0, .bool x1] 63 (0, 0))) (by simp only [World.size_alloc]; omega) hb; have n0 := Aside0.mk (blk_below hgw hb); have n1 := Aside0.mk (Kd.R_below HO.out hb2); have n2 := Aside0.mk (grown_below HG.out hb2); have n3 := Aside0.mk (blk_below (blk_new wr (.cells #[.int .i64 x0, .bool x1] 63 (0, 0))) hb); clear HW HO HG; have HW := n0; have HO := n1; have HG := n2; have B7 := n3; clear n0 n1 n2 n3; clear hb hb2 hgw hx0 hx1)
          go_roundw
          case rel => exact ⟨i, j + 1, d, by omega, by omega, rfl, by first | rfl | (simp; done), ⟨HC.out.skip HJ.out (by rw [HX.out]; exact HQ.out)⟩, HO, HG, HW⟩
          case measure => simp [intOf]; omega
        · have hqb : (x0 == who) = false := beq_eq_false_iff_ne.mpr hq
          have HQ := Aside0.mk hq
          have hil : i < len := by omega
          have q3 := eq_true (show (i : Int) < (len : Int) by omega)
          have q4 := eq_true (show (0 : Int) ≤ (i : Int) by omega)
          have q5 := eq_true hil
          clear hq
          go_wp2_with (go_at_call 22; refine (free1_calls gw who x0 x1 _ hgw).mono ?_; rintro e w4 ⟨rfl, hb⟩; have hb2 := below_then (below_alloc (Below.refl wr.heap.size wr) (.cells #[.int .i64 x0, .bool x1] 63 (0, 0))) (by simp only [World.size_alloc]; omega) hb; have n0 := Aside0.mk (blk_below hgw hb); have n1 := Aside0.mk (Kd.R_below HO.out hb2); have n2 := Aside0.mk (grown_below HG.out hb2); have n3 := Aside0.mk (blk_below (blk_new wr (.cells #[.int .i64 x0, .bool x1] 63 (0, 0))) hb); clear HW HO HG; have HW := n0; have HO := n1; have HG := n2; have B7 := n3; clear n0 n1 n2 n3; clear hb hb2 hgw hx0 hx1; obtain ⟨⟨ha0, ha1⟩, hf0, hf1⟩ := asked_at HO.out i hil; have hc70 : w4.cell? ⟨wr.heap.size, 0, none⟩ = some (.int .i64 x0) := (blk_cell B7.out 0).trans rfl; have hc71 : w4.cell? ⟨wr.heap.size, 1, none⟩ = some (.bool x1) := (blk_cell B7.out 1).trans rfl)
          have hp := asked_put HO.out i hil ⟨x0, x1⟩
          have hng : gw ≠ go := fun e => Kd.R_ne HO.out (show w4.heap[gw]? = some (.cells #[.int .i64 who] 3 (0, 0)) from HW.out) (by decide) (by rw [e]; rfl)
          have hk := HC.out.keep HJ.out (by rw [HX.out]; exact HQ.out)
          rw [HX.out] at hk
          have HK := Aside0.mk hk
          have HP := Aside0.mk hp.1
          have HPG := Aside0.mk (grown_trans HG.out hp.2)
          have HPW := Aside0.mk (show ((w4.setCell ⟨go, i * 2, none⟩ (.int .i64 x0)).setCell ⟨go, i * 2 + 1, none⟩ (.bool x1)).heap[gw]? = some (cellW who) from (Below.heap_setCell _ ⟨go, i * 2 + 1, none⟩ _ gw hng).trans ((Below.heap_setCell _ ⟨go, i * 2, none⟩ _ gw hng).trans HW.out))
          clear hp hng hk HO HG HW HC ha0 ha1 hf0 hf1 hc70 hc71 B7
          go_roundw
          case rel => exact ⟨i + 1, j + 1, d.set i ⟨x0, x1⟩, by omega, by omega, by first | rfl | (simp; done), by first | rfl | (simp; done), HK, HP, HPG, HPW⟩
          case measure => simp [intOf]; omega
      · obtain rfl : j = len := by omega
        have hcd := HC.out
        rw [← HLEN.out] at hcd
        obtain ⟨hd1, hd2⟩ := hcd.done
        rw [HLEN.out] at hd2
        have hcap := (Kd.R_reads' HO.out).2.1
        have HCAP := Aside0.mk hcap
        have HD1 := Aside0.mk hd1
        have q0 := eq_false (show ¬ (j : Int) < (j : Int) by omega)
        have q1 := eq_true (show (0 : Int) ≤ (i : Int) by omega)
        have q2 := eq_true (show (i : Int) ≤ (j : Int) by omega)
        have q3 := eq_true (show i ≤ j by omega)
        have q4 := eq_true (show i ≤ cap by omega)
        have q5 := eq_false (show ¬ i = cap by omega)
        have q6 := eq_false (show ¬ cap = i by omega)
        have q7 := eq_true (show (i : Int) ≤ (cap : Int) by omega)
        have q8 := eq_true hcap
        have HI := Aside0.mk hd2
        clear hcd hd1 hd2
        go_wp2_with ((with_reducible refine gate_builtin (b := .clear) (xs := #[.tmp 38]) (ts := #[56]) rfl ?_); obtain ⟨w1, hrun, hO2, hg2⟩ := asked_clear HO.out i HI.out (cap - i); have HO2 := Aside0.mk hO2; have HG2 := Aside0.mk (grown_trans HG.out hg2); clear hO2 hg2; refine Kd.event_run (by rfl) (v := .tuple #[]) (w1 := w1) ?hr ?_; (case hr => (unfold execOp; simp [hrun, go_sem]; done)); clear hrun)
        go_ret
        exact ⟨_, rfl, by rw [← HD1.out]; exact HO2.out, HG2.out, rfl⟩
end
end Go.Proofs.Ytdhabfjfpbdjfaa.Pr
