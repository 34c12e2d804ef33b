-- A text by hand (wip/limit).
import Derived.RangeFuncNested
import Derived.RangeFuncBound
import Derived.RangeFuncCalls
import Derived.RangeFuncLeaves
import Derived.RangeFuncBox
import Derived.Shelf.Abstract
import Derived.Shelf.RegionOpen
import Derived.OwnWalkIn
import Derived.TacticsInMore
import Derived.LoopNIn
import Derived.LoopIn
import Derived.Test.YtdgpcjhincgijaaPr0
namespace Go.Proofs.Ytdgpcjhincgijaa.Pr
open Go.RowKit Go.Shelf Go.Proofs.YtdgpcjhincgijaaW.PrintWords Go.Proofs.YtdgpcjhincgijaaW.PrintLast Go.Proofs.YtdgpcjhincgijaaW.PrintMore
set_option linter.unusedVariables false
set_option linter.unusedSimpArgs false
/-- What has come when k rounds are over: the used symbols below k, with their lengths. -/
def usedL (zs : List Int) (k : Nat) : List (Nat × Int) := ((List.range k).map fun j => (j, zs[j]?.getD 0)).filter fun x => decide (x.2 ≠ 0)
theorem usedL_zero (zs : List Int) : usedL zs 0 = [] := rfl
theorem usedL_succ (zs : List Int) (k : Nat) : usedL zs (k + 1) = if zs[k]?.getD 0 = 0 then usedL zs k else usedL zs k ++ [(k, zs[k]?.getD 0)] := by
  unfold usedL
  rw [List.range_succ, List.map_append, List.filter_append]
  by_cases h : zs[k]?.getD 0 = 0
  · rw [if_pos h]
    simp [h]
  · rw [if_neg h]
    simp [h]
theorem usedL_len (zs : List Int) (k : Nat) : (usedL zs k).length ≤ k := by
  unfold usedL
  refine Nat.le_trans (List.length_filter_le _ _) ?_
  simp
theorem usedL_sub (zs : List Int) {k : Nat} (hk : k ≤ zs.length) : ∀ x ∈ usedL zs k, x ∈ usedL zs zs.length := by
  intro x hx
  unfold usedL at hx ⊢
  rw [List.mem_filter, List.mem_map] at hx ⊢
  obtain ⟨⟨j, hj, rfl⟩, h2⟩ := hx
  rw [List.mem_range] at hj
  exact ⟨⟨j, List.mem_range.2 (by omega), rfl⟩, h2⟩
section
attribute [local go_sem] Oper.semAt_some
set_option maxRecDepth 100000 in
set_option maxHeartbeats 2000000 in
/-- The closure of huff.used: each used symbol, with its length; for every loop body that keeps what lay below n₀. -/
theorem used1_in (F : Fence) (n : Nat) (hF : F.fn 44) (hro : F.round = none) (hn : 1 ≤ n) (l Bs n₀ : Nat) (A : Option Addr) (len cap : Nat) (zs : List Int) (hz : len = zs.length) (hreach : len * 8 ≤ 140737488355328) (hb : ∀ ad, A = some ad → ad.block < n₀) (J Jx : List (Nat × Int) → World → Prop)
    (hY : ∀ pre x W, J pre W → pre.length < len → YieldAt F (n - 1) Try.prog l #[.int .i64 (x.1 : Int), .int .i64 x.2] W fun e W' =>
      (e = .returned (.bool true) ∧ J (pre ++ [x]) W' ∧ Below n₀ W W') ∨ (e = .returned (.bool false) ∧ Jx (pre ++ [x]) W'))
    (W : World) (hBs : W.cell? ⟨Bs, 0, none⟩ = some (.slice A len cap)) (hc : (Kd.int .i64).C W A len zs) (h0 : J [] W) :
    CallsIn F n Try.prog 44 #[.func (.yield l) #[] #[], .pointer (some ⟨Bs, 0, none⟩)] W fun e W' => (∃ v, e = .returned v) ∧
      ((∃ ys, ys = usedL zs len ∧ J ys W') ∨ (∃ pre, (∃ k, k ≤ len ∧ pre = usedL zs k) ∧ Jx pre W')) := by
  refine callsIn_of_wp Try.func44 rfl hF ?_ hro
  simp only [Try.ntmps44, List.size_toArray, List.length_cons, List.length_nil, Nat.reduceAdd, Nat.reduceSub, Array.replicate_succ, Array.replicate_zero, List.push_toArray, List.append_toArray, List.nil_append, List.cons_append]
  gi_wp2
  gi_loopw [7] (fun i wr => ∃ k : Nat, k ≤ len ∧ i = .int .i64 k ∧ J (usedL zs k) wr ∧ Below n₀ W wr)
    (fun i _ => len - (intOf i).toNat)
  case atStart => exact ⟨0, Nat.zero_le _, rfl, h0, Below.refl _ _⟩
  case round =>
    obtain ⟨k, hk, rfl, hJs, hnx⟩ := hrel
    by_cases hlt : k < len
    · obtain ⟨ad, rfl, hx⟩ := Kd.at_int hc (k : Int) (by omega) (by omega)
      rw [Int.toNat_natCast] at hx
      have hcx : wr.cell? (ad.add k) = some (.int .i64 (zs[k]?.getD 0)) := (hnx.cell (p := ad.add k) (show (ad.add k).block < n₀ by rw [show (ad.add k).block = ad.block by unfold Addr.add; split <;> rfl]; exact hb ad rfl)).trans (by rw [hx]; unfold rd; rw [Int.toNat_natCast, List.getD_eq_getElem?_getD])
      clear hx
      obtain ⟨v, hv⟩ : ∃ v, zs[k]?.getD 0 = v := ⟨_, rfl⟩
      have hs := usedL_succ zs k
      rw [hv] at hcx hs
      by_cases h0v : v = 0
      · rw [if_pos h0v] at hs
        have hq := eq_true h0v
        have hqb : (v != 0) = false := bne_eq_false_iff_eq.mpr h0v
        have hqc : (v == 0) = true := beq_iff_eq.mpr h0v
        clear hv

        gi_wp2

        refine ⟨fun _ h => (by cases h), ?_⟩
        gi_wp2
        go_roundw
        case rel => exact ⟨k + 1, by omega, by simp, by rw [hs]; exact hJs, hnx⟩
        case measure => simp [intOf]; omega
      · rw [if_neg h0v] at hs
        have hqb : (v != 0) = true := bne_iff_ne.mpr h0v
        have hqc : (v == 0) = false := beq_eq_false_iff_ne.mpr h0v
        clear hv
        obtain ⟨fn, tmps, assign, body, hy, hR⟩ := hY _ (k, v) wr hJs (Nat.lt_of_le_of_lt (usedL_len zs k) hlt)
        dsimp only at hy
        gi_wp2
        refine hR.mono ?_
        rintro e W3 (⟨rfl, hJ3, hk3⟩ | ⟨rfl, hJx3⟩)
        · gi_wp2
          go_roundw
          case rel => exact ⟨k + 1, by omega, by simp, by rw [hs]; exact hJ3, hnx.trans hk3⟩
          case measure => simp [intOf]; omega
        · gi_wp2
          refine bodyPost_ret (results_none rfl _ _ _) rfl ?_
          exact ⟨⟨_, rfl⟩, .inr ⟨_, ⟨k + 1, by omega, hs.symm⟩, hJx3⟩⟩
    · obtain rfl : k = len := by omega
      gi_wp2
      go_end0
      exact ⟨⟨_, rfl⟩, .inl ⟨_, rfl, hJs⟩⟩
end
theorem used_stops (F : Fence) (n : Nat) (hF : F.fn 44) (hro : F.round = none) (hn : 1 ≤ n) (Bs n₀ : Nat) (A : Option Addr) (len cap : Nat) (zs : List Int) (hz : len = zs.length) (hreach : len * 8 ≤ 140737488355328) (hb : ∀ ad, A = some ad → ad.block < n₀) (w : World) (hBs : Bs < w.heap.size) (hn₀ : n₀ ≤ w.heap.size)
    (hc : w.cell? ⟨Bs, 0, none⟩ = some (.slice A len cap)) (hI : (Kd.int .i64).C w A len zs) :
    SeqStopsK F n Try.prog 44 #[.pointer (some ⟨Bs, 0, none⟩)] (fun x : Nat × Int => #[Value.int .i64 (x.1 : Int), Value.int .i64 x.2]) (Below n₀) (fun ys => ys = usedL zs zs.length)
      (fun pre => ∃ k, k ≤ zs.length ∧ pre = usedL zs k) zs.length w := fun l J Jx W hW _ _ hY h0 => by
  subst hz
  exact used1_in F n hF hro hn l Bs n₀ A zs.length cap zs rfl hreach hb J Jx hY W ((hW.cell (p := ⟨Bs, 0, none⟩) hBs).trans hc) (Kd.C_below hI hW) h0
section
attribute [local go_sem] Oper.semAt_some
set_option maxHeartbeats 1000000 in
/-- huff.used: the slice is boxed; the function value has caught the box. -/
theorem used_in (F : Fence) (n : Nat) (hF : F.fn 41) (hro : F.round = none) (a : Option Addr) (len cap : Nat) (w : World) :
    CallsIn F n Try.prog 41 #[.slice a len cap] w fun e w' => e = .returned (.func (.func 44) #[] #[.pointer (some ⟨w.heap.size, 0, none⟩)]) ∧ w' = w.alloc (.cells #[.slice a len cap] 22) := by
  refine callsIn_of_wp Try.func41 rfl hF ?_ hro
  simp only [Try.ntmps41, List.size_toArray, List.length_cons, List.length_nil, Nat.reduceAdd, Nat.reduceSub, Array.replicate_succ, Array.replicate_zero, List.push_toArray, List.append_toArray, List.nil_append, List.cons_append]
  gi_wp2
  go_ret
  exact ⟨rfl, rfl⟩
end
def cntStep (c : List Int) (x : Nat × Int) : List Int := c.set x.2.toNat (wrap64 (rd c x.2 + 1))
def cntL (pre : List (Nat × Int)) : List Int := pre.foldl cntStep (List.replicate 16 0)
theorem cntL_snoc (pre : List (Nat × Int)) (x : Nat × Int) : cntL (pre ++ [x]) = cntStep (cntL pre) x := by unfold cntL; rw [List.foldl_append]; rfl
theorem cntL_len (pre : List (Nat × Int)) : (cntL pre).length = 16 := by
  have : ∀ (c : List Int), c.length = 16 → (pre.foldl cntStep c).length = 16 := by
    induction pre with
    | nil => intro c h; exact h
    | cons x pre ih => intro c h; exact ih _ (by unfold cntStep; rw [List.length_set]; exact h)
  exact this _ (by simp)
def Lok (x : Int) : Prop := 0 ≤ x ∧ x ≤ 15
instance (x : Int) : Decidable (Lok x) := by unfold Lok; infer_instance
def zero16 : List Int := List.replicate 16 0
/-- What counted tells. -/
def countedS (zs : List Int) : List Int × Bool := if zs.length < 1 ∨ 288 < zs.length then (zero16, false) else if (usedL zs zs.length).all (fun x => decide (Lok x.2)) then (cntL (usedL zs zs.length), true) else (zero16, false)
def agg16 (c : List Int) : Value := .agg (c.map (Value.int .i64)).toArray
def CountedPost (zs : List Int) (w : World) (e : Ending) (w' : World) : Prop := e = .returned (.tuple #[agg16 (countedS zs).1, .bool (countedS zs).2]) ∧ Below w.heap.size w w'
end Go.Proofs.Ytdgpcjhincgijaa.Pr
