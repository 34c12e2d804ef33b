-- A text by hand (wip/locks).
import Derived.RangeFuncNested
import Derived.RangeFuncBound
import Derived.RangeFuncCalls
import Derived.RangeFuncLeaves
import Derived.RangeFuncBox
import Derived.Shelf.Abstract
import Derived.Shelf.RegionOpen
import Derived.OwnWalkIn
import Derived.TacticsInMore
import Derived.LoopNIn
import Derived.LoopIn
import Derived.Test.YtdhabfjfpbdjfaaPr0
namespace Go.Proofs.Ytdhabfjfpbdjfaa.Pr
open Go.RowKit Go.Shelf Go.Proofs.YtdhabfjfpbdjfaaW.PrintWords Go.Proofs.YtdhabfjfpbdjfaaW.PrintLast Go.Proofs.YtdhabfjfpbdjfaaW.PrintMore
set_option linter.unusedVariables false
set_option linter.unusedSimpArgs false

theorem info63 : (Try.prog.info? 63).map (fun i => (i.zero, i.size, i.bytes)) = some (some (.agg #[(.int .i64 0), (.bool false)]), 2, 16) := by kernel_rfl
def cellW (who : Int) : Obj := .cells #[.int .i64 who] 3 (0, 0)
section
attribute [local go_sem] Oper.semAt_some
set_option maxHeartbeats 1000000 in
theorem ask1_calls (gw : Nat) (who a : Int) (b : Bool) (w : World) (hw : w.heap[gw]? = some (cellW who)) : Calls Try.prog 26 #[.agg #[.int .i64 a, .bool b], .pointer (some ⟨gw, 0, none⟩)] w fun e w' => e = .returned (.bool (a == who)) ∧ Below w.heap.size w w' := by
  have hlt := blk_lt hw
  have hb := blk_alloc hw (.cells #[.int .i64 a, .bool b] 63 (0, 0))
  have hc : (w.alloc (.cells #[.int .i64 a, .bool b] 63 (0, 0))).cell? ⟨gw, 0, none⟩ = some (.int .i64 who) := (blk_cell hb 0).trans rfl
  clear hb hw
  go_enter Try.func26, Try.ntmps26
  go_wp2
  go_ret
  exact ⟨rfl, below_alloc (Below.refl _ _) _⟩
set_option maxHeartbeats 1000000 in
theorem free1_calls (gw : Nat) (who a : Int) (b : Bool) (w : World) (hw : w.heap[gw]? = some (cellW who)) : Calls Try.prog 22 #[.agg #[.int .i64 a, .bool b], .pointer (some ⟨gw, 0, none⟩)] w fun e w' => e = .returned (.bool (a == who)) ∧ Below w.heap.size w w' := by
  have hlt := blk_lt hw
  have hb := blk_alloc hw (.cells #[.int .i64 a, .bool b] 63 (0, 0))
  have hc : (w.alloc (.cells #[.int .i64 a, .bool b] 63 (0, 0))).cell? ⟨gw, 0, none⟩ = some (.int .i64 who) := (blk_cell hb 0).trans rfl
  clear hb hw
  go_enter Try.func22, Try.ntmps22
  go_wp2
  go_ret
  exact ⟨rfl, below_alloc (Below.refl _ _) _⟩
/-- A row of those who asked, in cells. -/
def mayF (hs : List S63) (wr : Bool) : Bool := hs.isEmpty || (!wr && !(rd_T63 hs 0).f1)
set_option maxHeartbeats 2000000 in
theorem may_calls (g : Nat) (A : Option Addr) (c : Nat) (vw : Value) (hs : List S63) (wr : Bool) (w : World) (hg : w.heap[g]? = some (.cells #[.slice A hs.length c, vw] 60 (0, 0))) (hc : Kd.C k63 w A hs.length hs) :
    Calls Try.prog 25 #[.pointer (some ⟨g, 0, none⟩), .bool wr] w fun e w' => e = .returned (.bool (mayF hs wr)) ∧ w' = w := by
  have h0 : w.cell? ⟨g, 0, none⟩ = some (.slice A hs.length c) := (blk_cell hg 0).trans rfl
  by_cases hn : hs.length = 0
  · have e : hs = [] := List.eq_nil_of_length_eq_zero hn
    subst e
    have h0 : w.cell? ⟨g, 0, none⟩ = some (.slice A 0 c) := h0
    clear hc hg hn
    go_enter Try.func25, Try.ntmps25
    go_wp2
    go_ret
    exact ⟨rfl, rfl⟩
  · obtain ⟨ad, rfl, hx0, hx1⟩ := at_T63 hc 0 (by omega) (by omega)
    rw [show ((0 : Int)).toNat = 0 from rfl, show 0 * 2 = 0 from rfl, Addr.add_zero'] at hx1
    have hl : hs.length ≠ 0 := hn
    have hne : hs.isEmpty = false := by cases hs with | nil => exact absurd rfl hn | cons x l => rfl
    have hlb : ((hs.length : Int) == 0) = false := beq_eq_false_iff_ne.mpr (by omega)
    have hlc := eq_true (show (0 : Int) < (hs.length : Int) by omega)
    have hld := eq_true (show 0 < hs.length by omega)
    unfold mayF
    rw [hne]
    obtain ⟨f1, hf1⟩ : ∃ f1, (rd_T63 hs 0).f1 = f1 := ⟨_, rfl⟩
    rw [hf1] at hx1 ⊢
    clear hf1 hc hg hx0 hl hne hn
    cases wr
    · go_enter Try.func25, Try.ntmps25
      go_wp2
      go_ret
      exact ⟨rfl, rfl⟩
    · go_enter Try.func25, Try.ntmps25
      go_wp2
      go_ret
      exact ⟨rfl, rfl⟩
end
/-- One that asked, as a value. -/
def agA (x : S63) : Value := .agg #[.int .i64 x.f0, .bool x.f1]
theorem grown_none_new {w : World} (o : Obj) : w.grownBy (w.alloc o) none := World.grownBy_alloc w o none
theorem grown_new {w w1 : World} (h : w.grownBy w1 none) {p : Addr} (hp : w.heap.size ≤ p.block) (u : Value) : w.grownBy (w1.setCell p u) none :=
  ⟨h.os, h.tape, h.output, Nat.le_trans h.size (by simp [World.setCell]), fun i hi hne => (Below.heap_setCell w1 p u i (by omega)).trans (h.block i hi hne)⟩
section
attribute [local go_sem] Oper.semAt_some
set_option maxRecDepth 100000 in
set_option maxHeartbeats 2000000 in
/-- The closure of queue.all: each of a row, in order; for every loop body that keeps what lay below n₀. -/
theorem all1_in (F : Fence) (n : Nat) (hF : F.fn 31) (hro : F.round = none) (hn : 1 ≤ n) (l Bs n₀ g o : Nat) (A : Option Addr) (len cap : Nat) (xs : List S63) (hz : len = xs.length) (hreach : len ≤ 4611686018427387904) (hb : ∀ ad, A = some ad → ad.block < n₀) (J Jx : List S63 → World → Prop)
    (hJ : ∀ pre W W', J pre W → W.grownBy W' none → J pre W')
    (hY : ∀ pre x W, J pre W → pre.length < len → YieldAt F (n - 1) Try.prog l #[agA x] W fun e W' =>
      (e = .returned (.bool true) ∧ J (pre ++ [x]) W' ∧ Below n₀ W W') ∨ (e = .returned (.bool false) ∧ Jx (pre ++ [x]) W'))
    (W : World) (hn₀ : n₀ ≤ W.heap.size) (hBs : W.cell? ⟨Bs, 0, none⟩ = some (.pointer (some ⟨g, o, none⟩))) (hq : W.cell? ⟨g, o, none⟩ = some (.slice A len cap)) (hc : Kd.C k63 W A len xs) (h0 : J [] W) :
    CallsIn F n Try.prog 31 #[.func (.yield l) #[] #[], .pointer (some ⟨Bs, 0, none⟩)] W fun e W' => (∃ v, e = .returned v) ∧
      ((∃ ys, ys = xs ∧ J ys W') ∨ (∃ pre, pre <+: xs ∧ Jx pre W')) := by
  refine callsIn_of_wp Try.func31 rfl hF ?_ hro
  simp only [Try.ntmps31, List.size_toArray, List.length_cons, List.length_nil, Nat.reduceAdd, Nat.reduceSub, Array.replicate_succ, Array.replicate_zero, List.push_toArray, List.append_toArray, List.nil_append, List.cons_append]
  gi_wp2
  gi_loopw [10] (fun i wr => ∃ k : Nat, k ≤ len ∧ i = .int .i64 k ∧ J (xs.take k) wr ∧ Below n₀ W wr)
    (fun i _ => len - (intOf i).toNat)
  case atStart => exact ⟨0, Nat.zero_le _, rfl, h0, Below.refl _ _⟩
  case round =>
    obtain ⟨k, hk, rfl, hJs, hnx⟩ := hrel
    by_cases hlt : k < len
    · obtain ⟨ad, rfl, hx0, hx1⟩ := at_T63 hc (k : Int) (by omega) (by omega)
      rw [Int.toNat_natCast] at hx0 hx1
      obtain ⟨x, hx⟩ : ∃ x, rd_T63 xs (k : Int) = x := ⟨_, rfl⟩
      have hxk : xs[k]? = some x := by
        rw [← hx]; unfold rd_T63
        rw [Int.toNat_natCast, List.getD_eq_getElem?_getD, List.getElem?_eq_getElem (by omega)]; rfl
      have hts : xs.take (k + 1) = xs.take k ++ [x] := by rw [List.take_add_one, hxk]; rfl
      rw [hx] at hx0 hx1
      have hbk : (ad.add (k * 2)).block = ad.block := add_block _ _
      have hc0 : wr.cell? (ad.add (k * 2)) = some (.int .i64 x.f0) := (hnx.cell (p := ad.add (k * 2)) (by rw [hbk]; exact hb ad rfl)).trans hx0
      have hc1 : wr.cell? ⟨(ad.add (k * 2)).block, (ad.add (k * 2)).off + 1, none⟩ = some (.bool x.f1) := (hnx.cell (p := ⟨(ad.add (k * 2)).block, (ad.add (k * 2)).off + 1, none⟩) (by show (ad.add (k * 2)).block < n₀; rw [hbk]; exact hb ad rfl)).trans hx1
      obtain ⟨x0, x1⟩ := x
      have hsz := hnx.size
      have hbq : Below n₀ wr (wr.alloc (.cells #[.int .i64 x0, .bool x1] 63 (0, 0))) := (Below.refl n₀ wr).alloc (by omega) _
      obtain ⟨fn, tmps, assign, body, hy, hR⟩ := hY _ ⟨x0, x1⟩ (wr.alloc (.cells #[.int .i64 x0, .bool x1] 63 (0, 0))) (hJ _ _ _ hJs (grown_none_new _)) (by rw [List.length_take]; omega)
      dsimp only [agA] at hy
      clear hx0 hx1 hx hxk hbk
      gi_wp2
      refine hR.mono ?_
      rintro e W3 (⟨rfl, hJ3, hk3⟩ | ⟨rfl, hJx3⟩)
      · gi_wp2
        go_roundw
        case rel => exact ⟨k + 1, by omega, by simp, by rw [hts]; exact hJ3, (hnx.trans hbq).trans hk3⟩
        case measure => simp [intOf]; omega
      · gi_wp2
        refine bodyPost_ret (results_none rfl _ _ _) rfl ?_
        exact ⟨⟨_, rfl⟩, .inr ⟨_, ⟨xs.drop (k + 1), by rw [← hts, List.take_append_drop]⟩, hJx3⟩⟩
    · obtain rfl : k = len := by omega
      gi_wp2
      go_end0
      exact ⟨⟨_, rfl⟩, .inl ⟨_, by rw [hz, List.take_length], hJs⟩⟩
end
end Go.Proofs.Ytdhabfjfpbdjfaa.Pr
