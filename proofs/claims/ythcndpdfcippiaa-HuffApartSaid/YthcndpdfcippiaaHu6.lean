-- A text by hand (wip/huff).
import Derived.RangeFuncNested
import Derived.RangeFuncBound
import Derived.RangeFuncCalls
import Derived.RangeFuncLeaves
import Derived.RangeFuncBox
import Derived.Shelf.Abstract
import Derived.Shelf.RegionOpen
import Derived.OwnWalkIn
import Derived.TacticsInMore
import Derived.LoopNIn
import Derived.LoopIn
import Derived.Test.YthcndpdfcippiaaHu0
import Derived.Test.YthcndpdfcippiaaHu5
namespace Go.Proofs.Ythcndpdfcippiaa.Hu
open Go.RowKit Go.Shelf Go.Proofs.YthcndpdfcippiaaW.PrintWords Go.Proofs.YthcndpdfcippiaaW.PrintLast Go.Proofs.YthcndpdfcippiaaW.PrintMore
set_option linter.unusedVariables false
set_option linter.unusedSimpArgs false
/-- The first codes of the lengths up to l. -/
def nextL (c : List Int) : Nat → List Int
  | 0 => zero16
  | l + 1 => (nextL c l).set (l + 1) (wrap64 (wrap64 (rd (nextL c l) (l : Int) + rd c (l : Int)) * 2))
theorem nextL_len (c : List Int) (l : Nat) : (nextL c l).length = 16 := by
  induction l with
  | zero => rfl
  | succ l ih => rw [nextL, List.length_set, ih]
/-- One used symbol gets its code. -/
def codeStep (s : List Int × List Int) (x : Nat × Int) : List Int × List Int := (s.1.set x.1 (rd s.2 x.2), s.2.set x.2.toNat (wrap64 (rd s.2 x.2 + 1)))
def codesL (zs : List Int) (c : List Int) (pre : List (Nat × Int)) : List Int × List Int := pre.foldl codeStep (List.replicate zs.length 0, nextL c 15)
theorem codesL_snoc (zs c : List Int) (pre : List (Nat × Int)) (x : Nat × Int) : codesL zs c (pre ++ [x]) = codeStep (codesL zs c pre) x := by unfold codesL; rw [List.foldl_append]; rfl
theorem codesL_len1 (zs c : List Int) (pre : List (Nat × Int)) : (codesL zs c pre).1.length = zs.length := by
  have : ∀ (s : List Int × List Int), (pre.foldl codeStep s).1.length = s.1.length := by
    induction pre with
    | nil => intro s; rfl
    | cons x pre ih => intro s; exact (ih _).trans (by unfold codeStep; rw [List.length_set])
  exact (this _).trans (by simp)
theorem codesL_len2 (zs c : List Int) (pre : List (Nat × Int)) : (codesL zs c pre).2.length = 16 := by
  have : ∀ (s : List Int × List Int), (pre.foldl codeStep s).2.length = s.2.length := by
    induction pre with
    | nil => intro s; rfl
    | cons x pre ih => intro s; exact (ih _).trans (by unfold codeStep; rw [List.length_set])
  exact (this _).trans (nextL_len c 15)
theorem usedL_mem {zs : List Int} {k : Nat} {x : Nat × Int} (h : x ∈ usedL zs k) : x.1 < k ∧ x.2 = zs[x.1]?.getD 0 ∧ x.2 ≠ 0 := by
  unfold usedL at h
  rw [List.mem_filter, List.mem_map] at h
  obtain ⟨⟨j, hj, rfl⟩, h2⟩ := h
  exact ⟨List.mem_range.1 hj, rfl, of_decide_eq_true h2⟩
theorem madeCells_vec (m : Nat) : madeCells #[Value.int .i64 0] m = vec16 (List.replicate m 0) := by
  apply Array.ext'
  apply List.ext_getElem
  · simp [vec16, madeCells]
  · intro i h1 h2
    simp [vec16, madeCells, Nat.mod_one]
theorem vec_at {W : World} {g t : Nat} {c : List Int} (h : W.heap[g]? = some (.cells (vec16 c) t (0, 0))) (i : Nat) (hi : i < c.length) : W.cell? ⟨g, i, none⟩ = some (.int .i64 (rd c (i : Int))) := by
  rw [blk_cell h]
  unfold vec16 rd
  rw [List.getElem?_toArray, List.getElem?_map, List.getD_eq_getElem?_getD, Int.toNat_natCast, List.getElem?_eq_getElem hi]
  rfl
theorem vec_set (c : List Int) (i : Nat) (x : Int) : (vec16 c).setIfInBounds i (.int .i64 x) = vec16 (c.set i x) := by unfold vec16; rw [List.setIfInBounds_toArray, List.map_set]
theorem R_of_vec {W : World} {g base : Nat} {xs : List Int} (h : W.heap[g]? = some (.cells (vec16 xs) 3 (0, 0))) (hb : base ≤ g) (hl : xs.length ≤ 288) : Kd.R (Kd.int .i64) 3 W base (fun _ => True) (.slice (some ⟨g, 0, none⟩) xs.length xs.length) xs := by
  refine Kd.R_of_own ⟨by simp [encs], .inr ⟨g, xs.length, vec16 xs, rfl, hb, h, Nat.le_refl _, by unfold maxLen; omega, by simp [vec16], ?_⟩⟩ (fun _ _ => trivial)
  unfold vec16 encs
  rw [List.toList_toArray, Nat.mul_one]
  exact List.take_of_length_le (by simp)
/-- What huff.Codes tells. -/
def codesS (zs : List Int) : List Int × Int := if checkS zs ≠ 0 ∧ checkS zs ≠ 12 then ([], checkS zs) else ((codesL zs (countedS zs).1 (usedL zs zs.length)).1, 0)
section
attribute [local go_sem] Oper.semAt_some
set_option maxRecDepth 100000 in
set_option maxHeartbeats 4000000 in
theorem codes_bad (A : Option Addr) (c : Nat) (l : List Int) (w : World) (hr : (Kd.int .i64).C w A l.length l) (hs : checkS l ≠ 0 ∧ checkS l ≠ 12) : Calls Try.prog 11 #[.slice A l.length c] w fun e w' => e = .returned (.tuple #[.slice none 0 0, .int .i64 (codesS l).2]) ∧ Below w.heap.size w w' := by
  have hall : codesS l = ([], checkS l) := by unfold codesS; rw [if_pos hs]
  rw [hall]
  have K := Aside0.mk (huff_Check_in A c l w hr)
  generalize checkS l = y at hs K ⊢
  obtain ⟨h1, h2⟩ := hs
  have q1 : (y != 0) = true := bne_iff_ne.mpr h1
  have q2 : (y != 12) = true := bne_iff_ne.mpr h2
  have q3 : (y == 0) = false := beq_eq_false_iff_ne.mpr h1
  have q4 : (y == 12) = false := beq_eq_false_iff_ne.mpr h2
  go_enter Try.func11, Try.ntmps11
  go_wp2_with (go_at_call 13; refine (K.out).mono ?_; rintro e_ w3 ⟨rfl, hb⟩; have HB := Aside0.mk hb; clear hb)
  go_ret2
  exact ⟨rfl, HB.out⟩
end
section
attribute [local go_sem] Oper.semAt_some
set_option maxRecDepth 100000 in
set_option maxHeartbeats 2000000 in
/-- The same; the body is told that what comes is a used symbol. -/
theorem used1_mem (F : Fence) (n : Nat) (hF : F.fn 41) (hro : F.round = none) (hn : 1 ≤ n) (l Bs n₀ : Nat) (A : Option Addr) (len cap : Nat) (zs : List Int) (hz : len = zs.length) (hreach : len * 8 ≤ 140737488355328) (hb : ∀ ad, A = some ad → ad.block < n₀) (J Jx : List (Nat × Int) → World → Prop)
    (hY : ∀ pre x W, J pre W → pre.length < len → x ∈ usedL zs zs.length → YieldAt F (n - 1) Try.prog l #[.int .i64 (x.1 : Int), .int .i64 x.2] W fun e W' =>
      (e = .returned (.bool true) ∧ J (pre ++ [x]) W' ∧ Below n₀ W W') ∨ (e = .returned (.bool false) ∧ Jx (pre ++ [x]) W'))
    (W : World) (hBs : W.cell? ⟨Bs, 0, none⟩ = some (.slice A len cap)) (hc : (Kd.int .i64).C W A len zs) (h0 : J [] W) :
    CallsIn F n Try.prog 41 #[.func (.yield l) #[] #[], .pointer (some ⟨Bs, 0, none⟩)] W fun e W' => (∃ v, e = .returned v) ∧
      ((∃ ys, ys = usedL zs len ∧ J ys W') ∨ (∃ pre, (∃ k, k ≤ len ∧ pre = usedL zs k) ∧ Jx pre W')) := by
  refine callsIn_of_wp Try.func41 rfl hF ?_ hro
  simp only [Try.ntmps41, List.size_toArray, List.length_cons, List.length_nil, Nat.reduceAdd, Nat.reduceSub, Array.replicate_succ, Array.replicate_zero, List.push_toArray, List.append_toArray, List.nil_append, List.cons_append]
  gi_wp2
  gi_loopw [7] (fun i wr => ∃ k : Nat, k ≤ len ∧ i = .int .i64 k ∧ J (usedL zs k) wr ∧ Below n₀ W wr)
    (fun i _ => len - (intOf i).toNat)
  case atStart => exact ⟨0, Nat.zero_le _, rfl, h0, Below.refl _ _⟩
  case round =>
    obtain ⟨k, hk, rfl, hJs, hnx⟩ := hrel
    by_cases hlt : k < len
    · obtain ⟨ad, rfl, hx⟩ := Kd.at_int hc (k : Int) (by omega) (by omega)
      rw [Int.toNat_natCast] at hx
      have hcx : wr.cell? (ad.add k) = some (.int .i64 (zs[k]?.getD 0)) := (hnx.cell (p := ad.add k) (show (ad.add k).block < n₀ by rw [show (ad.add k).block = ad.block by unfold Addr.add; split <;> rfl]; exact hb ad rfl)).trans (by rw [hx]; unfold rd; rw [Int.toNat_natCast, List.getD_eq_getElem?_getD])
      clear hx
      obtain ⟨v, hv⟩ : ∃ v, zs[k]?.getD 0 = v := ⟨_, rfl⟩
      have hs := usedL_succ zs k
      rw [hv] at hcx hs
      by_cases h0v : v = 0
      · rw [if_pos h0v] at hs
        have hq := eq_true h0v
        have hqb : (v != 0) = false := bne_eq_false_iff_eq.mpr h0v
        have hqc : (v == 0) = true := beq_iff_eq.mpr h0v
        clear hv

        gi_wp2

        refine ⟨fun _ h => (by cases h), ?_⟩
        gi_wp2
        go_roundw
        case rel => exact ⟨k + 1, by omega, by simp, by rw [hs]; exact hJs, hnx⟩
        case measure => simp [intOf]; omega
      · rw [if_neg h0v] at hs
        have hqb : (v != 0) = true := bne_iff_ne.mpr h0v
        have hqc : (v == 0) = false := beq_eq_false_iff_ne.mpr h0v
        clear hv
        obtain ⟨fn, tmps, assign, body, hy, hR⟩ := hY _ (k, v) wr hJs (Nat.lt_of_le_of_lt (usedL_len zs k) hlt) (usedL_sub zs (k := k + 1) (by omega) _ (by rw [hs]; simp))
        dsimp only at hy
        gi_wp2
        refine hR.mono ?_
        rintro e W3 (⟨rfl, hJ3, hk3⟩ | ⟨rfl, hJx3⟩)
        · gi_wp2
          go_roundw
          case rel => exact ⟨k + 1, by omega, by simp, by rw [hs]; exact hJ3, hnx.trans hk3⟩
          case measure => simp [intOf]; omega
        · gi_wp2
          refine bodyPost_ret (results_none rfl _ _ _) rfl ?_
          exact ⟨⟨_, rfl⟩, .inr ⟨_, ⟨k + 1, by omega, hs.symm⟩, hJx3⟩⟩
    · obtain rfl : k = len := by omega
      gi_wp2
      go_end0
      exact ⟨⟨_, rfl⟩, .inl ⟨_, rfl, hJs⟩⟩
end
abbrev Used (zs : List Int) : Type := {x : Nat × Int // x ∈ usedL zs zs.length}
theorem used_stops_mem (F : Fence) (n : Nat) (hF : F.fn 41) (hro : F.round = none) (hn : 1 ≤ n) (Bs n₀ : Nat) (A : Option Addr) (len cap : Nat) (zs : List Int) (hz : len = zs.length) (hreach : len * 8 ≤ 140737488355328) (hb : ∀ ad, A = some ad → ad.block < n₀) (w : World) (hBs : Bs < w.heap.size) (hn₀ : n₀ ≤ w.heap.size)
    (hc : w.cell? ⟨Bs, 0, none⟩ = some (.slice A len cap)) (hI : (Kd.int .i64).C w A len zs) :
    SeqStopsK F n Try.prog 41 #[.pointer (some ⟨Bs, 0, none⟩)] (fun x : Used zs => #[Value.int .i64 (x.1.1 : Int), Value.int .i64 x.1.2]) (Below n₀) (fun ys => ys.map Subtype.val = usedL zs zs.length)
      (fun pre => ∃ k, k ≤ zs.length ∧ pre.map Subtype.val = usedL zs k) zs.length w := fun l J Jx W hW _ _ hY h0 => by
  subst hz
  refine (used1_mem F n hF hro hn l Bs n₀ A zs.length cap zs rfl hreach hb (fun pre W => ∃ p : List (Used zs), p.map Subtype.val = pre ∧ J p W) (fun pre W => ∃ p : List (Used zs), p.map Subtype.val = pre ∧ Jx p W) ?_ W ((hW.cell (p := ⟨Bs, 0, none⟩) hBs).trans hc) (Kd.C_below hI hW) ⟨[], rfl, h0⟩).mono ?_
  · rintro pre x W1 ⟨p, rfl, hJ⟩ hlt hx
    rw [List.length_map] at hlt
    obtain ⟨fn, tmps, assign, body, hy, hR⟩ := hY p ⟨x, hx⟩ W1 hJ hlt
    refine ⟨fn, tmps, assign, body, hy, hR.mono ?_⟩
    rintro e W3 (⟨rfl, hJ3, hk3⟩ | ⟨rfl, hJx3⟩)
    · exact .inl ⟨rfl, ⟨p ++ [⟨x, hx⟩], by simp, hJ3⟩, hk3⟩
    · exact .inr ⟨rfl, ⟨p ++ [⟨x, hx⟩], by simp, hJx3⟩⟩
  · rintro e W' ⟨hv, ⟨ys, rfl, p, e1, h1⟩ | ⟨pre, ⟨k, hk, rfl⟩, p, e1, h1⟩⟩
    · exact ⟨hv, .inl ⟨p, e1, h1⟩⟩
    · exact ⟨hv, .inr ⟨p, ⟨k, hk, e1⟩, h1⟩⟩
theorem vec_cell {W : World} {g t : Nat} {c : List Int} (h : W.heap[g]? = some (.cells (vec16 c) t (0, 0))) (hl : c.length = 16) (i : Nat) (hi : i < 16) : W.cell? ⟨g, i, none⟩ = some (.int .i64 (rd c (i : Int))) := by
  rw [blk_cell h]
  unfold vec16 rd
  rw [List.getElem?_toArray, List.getElem?_map, List.getD_eq_getElem?_getD, Int.toNat_natCast, List.getElem?_eq_getElem (show i < c.length by omega)]
  rfl
section
attribute [local go_sem] Oper.semAt_some
set_option maxRecDepth 100000 in
set_option maxHeartbeats 4000000 in
theorem codes_ok (A : Option Addr) (c : Nat) (l : List Int) (w : World) (hr : (Kd.int .i64).C w A l.length l) (hs : ¬ (checkS l ≠ 0 ∧ checkS l ≠ 12)) : Calls Try.prog 11 #[.slice A l.length c] w fun e w' => ∃ v, e = .returned (.tuple #[v, .int .i64 (codesS l).2]) ∧ Kd.R (Kd.int .i64) 3 w' w.heap.size (fun _ => True) v (codesS l).1 ∧ Below w.heap.size w w' := by
  refine (callsIn_wide (n := 3)).1 ?_
  have HR := Aside0.mk hr
  have K := Aside0.mk (huff_Check_in A c l w hr)
  have hlen := countedS_len l
  have K4 := Aside0.mk (fun w' (hb : Below w.heap.size w w') => huff_counted.calls A c l w' (Kd.C_below hr hb))
  unfold CountedPost at K4
  have hok : (countedS l).2 = true := by
    cases h : (countedS l).2 with
    | true => rfl
    | false => exact absurd (by unfold checkS; rw [if_pos h]; decide) hs
  have hL : ¬ (l.length < 1 ∨ 288 < l.length) := fun h => by
    have : (countedS l).2 = false := by unfold countedS; rw [if_pos h]
    rw [this] at hok
    cases hok
  have hLs : ∀ p ∈ usedL l l.length, Lok p.2 := by
    by_cases h : (usedL l l.length).all (fun x => decide (Lok x.2)) = true
    · exact fun p hp => of_decide_eq_true (List.all_eq_true.1 h p hp)
    · have : (countedS l).2 = false := by unfold countedS; rw [if_neg hL, if_neg h]
      rw [this] at hok
      cases hok
  have hL2 : 1 ≤ l.length ∧ l.length ≤ 288 := by omega
  have HL := Aside0.mk hL2
  have HLS := Aside0.mk hLs
  clear hL hLs hL2
  have hall : codesS l = ((codesL l (countedS l).1 (usedL l l.length)).1, 0) := by unfold codesS; rw [if_neg hs]
  rw [hall]
  obtain ⟨cl, hcl⟩ : ∃ cl, (countedS l).1 = cl := ⟨_, rfl⟩
  simp only [hok, hcl] at K4 hlen ⊢
  obtain ⟨cs, hcs⟩ : ∃ cs, cl = cs := ⟨_, rfl⟩
  rw [hcs] at hcl ⊢
  have HCL := Aside0.mk hcl
  have HCS := Aside0.mk hcs
  clear hcl hok hall hcs
  refine callsIn_of_wp_marks Try.func11 rfl trivial ?_ rfl
  simp only [Try.ntmps11, List.size_toArray, List.length_cons, List.length_nil, Nat.reduceAdd, Nat.reduceSub, Array.replicate_succ, Array.replicate_zero, List.push_toArray, List.append_toArray, List.nil_append, List.cons_append]
  have hlen2 := Aside0.mk hlen
  obtain ⟨x0, cl, rfl⟩ := List.exists_cons_of_length_pos (l := cl) (by omega)
  obtain ⟨x1, cl, rfl⟩ := List.exists_cons_of_length_pos (l := cl) (by simp only [List.length_cons] at hlen; omega)
  obtain ⟨x2, cl, rfl⟩ := List.exists_cons_of_length_pos (l := cl) (by simp only [List.length_cons] at hlen; omega)
  obtain ⟨x3, cl, rfl⟩ := List.exists_cons_of_length_pos (l := cl) (by simp only [List.length_cons] at hlen; omega)
  obtain ⟨x4, cl, rfl⟩ := List.exists_cons_of_length_pos (l := cl) (by simp only [List.length_cons] at hlen; omega)
  obtain ⟨x5, cl, rfl⟩ := List.exists_cons_of_length_pos (l := cl) (by simp only [List.length_cons] at hlen; omega)
  obtain ⟨x6, cl, rfl⟩ := List.exists_cons_of_length_pos (l := cl) (by simp only [List.length_cons] at hlen; omega)
  obtain ⟨x7, cl, rfl⟩ := List.exists_cons_of_length_pos (l := cl) (by simp only [List.length_cons] at hlen; omega)
  obtain ⟨x8, cl, rfl⟩ := List.exists_cons_of_length_pos (l := cl) (by simp only [List.length_cons] at hlen; omega)
  obtain ⟨x9, cl, rfl⟩ := List.exists_cons_of_length_pos (l := cl) (by simp only [List.length_cons] at hlen; omega)
  obtain ⟨x10, cl, rfl⟩ := List.exists_cons_of_length_pos (l := cl) (by simp only [List.length_cons] at hlen; omega)
  obtain ⟨x11, cl, rfl⟩ := List.exists_cons_of_length_pos (l := cl) (by simp only [List.length_cons] at hlen; omega)
  obtain ⟨x12, cl, rfl⟩ := List.exists_cons_of_length_pos (l := cl) (by simp only [List.length_cons] at hlen; omega)
  obtain ⟨x13, cl, rfl⟩ := List.exists_cons_of_length_pos (l := cl) (by simp only [List.length_cons] at hlen; omega)
  obtain ⟨x14, cl, rfl⟩ := List.exists_cons_of_length_pos (l := cl) (by simp only [List.length_cons] at hlen; omega)
  obtain ⟨x15, cl, rfl⟩ := List.exists_cons_of_length_pos (l := cl) (by simp only [List.length_cons] at hlen; omega)
  obtain rfl : cl = [] := List.eq_nil_of_length_eq_zero (by simp only [List.length_cons] at hlen; omega)
  clear hlen
  have hy : checkS l = 0 ∨ checkS l = 12 := by omega
  clear hs
  generalize hyy : checkS l = y at hy K
  clear hyy
  rcases hy with rfl | rfl
  all_goals
    gi_wp2_with (first
      | (refine ⟨trivial, ?_⟩; gi_at_call 13; refine (callsIn_wide.2 (K.out)).mono ?_; rintro e_ w3 ⟨rfl, hb⟩; have HB := Aside0.mk hb; clear hb)
      | (refine ⟨trivial, ?_⟩; gi_at_call 25; refine (callsIn_wide.2 (K4.out _ HB.out)).mono ?_; rintro e_ w4 ⟨rfl, hb⟩; have HB4 := Aside0.mk (below_then HB.out HB.out.size hb); clear hb; simp only [agg16, List.map_cons, List.map_nil])
      | ((with_reducible refine gate_dst (N := 5) rfl ?_); trace_state; sorry)
      )
    have bC := blk_alloc (blk_new w4 (.cells #[Value.int IntKind.i64 x0, Value.int IntKind.i64 x1, Value.int IntKind.i64 x2, Value.int IntKind.i64 x3, Value.int IntKind.i64 x4, Value.int IntKind.i64 x5, Value.int IntKind.i64 x6, Value.int IntKind.i64 x7, Value.int IntKind.i64 x8, Value.int IntKind.i64 x9, Value.int IntKind.i64 x10, Value.int IntKind.i64 x11, Value.int IntKind.i64 x12, Value.int IntKind.i64 x13, Value.int IntKind.i64 x14, Value.int IntKind.i64 x15] 57 (0, 0))) (.cells #[Value.int IntKind.i64 0, Value.int IntKind.i64 0, Value.int IntKind.i64 0, Value.int IntKind.i64 0, Value.int IntKind.i64 0, Value.int IntKind.i64 0, Value.int IntKind.i64 0, Value.int IntKind.i64 0, Value.int IntKind.i64 0, Value.int IntKind.i64 0, Value.int IntKind.i64 0, Value.int IntKind.i64 0, Value.int IntKind.i64 0, Value.int IntKind.i64 0, Value.int IntKind.i64 0, Value.int IntKind.i64 0] 57 (0, 0))
    have bN := blk_new (w4.alloc (.cells #[Value.int IntKind.i64 x0, Value.int IntKind.i64 x1, Value.int IntKind.i64 x2, Value.int IntKind.i64 x3, Value.int IntKind.i64 x4, Value.int IntKind.i64 x5, Value.int IntKind.i64 x6, Value.int IntKind.i64 x7, Value.int IntKind.i64 x8, Value.int IntKind.i64 x9, Value.int IntKind.i64 x10, Value.int IntKind.i64 x11, Value.int IntKind.i64 x12, Value.int IntKind.i64 x13, Value.int IntKind.i64 x14, Value.int IntKind.i64 x15] 57 (0, 0))) (.cells #[Value.int IntKind.i64 0, Value.int IntKind.i64 0, Value.int IntKind.i64 0, Value.int IntKind.i64 0, Value.int IntKind.i64 0, Value.int IntKind.i64 0, Value.int IntKind.i64 0, Value.int IntKind.i64 0, Value.int IntKind.i64 0, Value.int IntKind.i64 0, Value.int IntKind.i64 0, Value.int IntKind.i64 0, Value.int IntKind.i64 0, Value.int IntKind.i64 0, Value.int IntKind.i64 0, Value.int IntKind.i64 0] 57 (0, 0))
    simp only [World.size_alloc] at bN
    have hB0 := below_alloc (below_alloc HB4.out (.cells #[Value.int IntKind.i64 x0, Value.int IntKind.i64 x1, Value.int IntKind.i64 x2, Value.int IntKind.i64 x3, Value.int IntKind.i64 x4, Value.int IntKind.i64 x5, Value.int IntKind.i64 x6, Value.int IntKind.i64 x7, Value.int IntKind.i64 x8, Value.int IntKind.i64 x9, Value.int IntKind.i64 x10, Value.int IntKind.i64 x11, Value.int IntKind.i64 x12, Value.int IntKind.i64 x13, Value.int IntKind.i64 x14, Value.int IntKind.i64 x15] 57 (0, 0))) (.cells #[Value.int IntKind.i64 0, Value.int IntKind.i64 0, Value.int IntKind.i64 0, Value.int IntKind.i64 0, Value.int IntKind.i64 0, Value.int IntKind.i64 0, Value.int IntKind.i64 0, Value.int IntKind.i64 0, Value.int IntKind.i64 0, Value.int IntKind.i64 0, Value.int IntKind.i64 0, Value.int IntKind.i64 0, Value.int IntKind.i64 0, Value.int IntKind.i64 0, Value.int IntKind.i64 0, Value.int IntKind.i64 0] 57 (0, 0))
    have hG := HB4.out.size
    generalize ((w4.alloc (.cells #[Value.int IntKind.i64 x0, Value.int IntKind.i64 x1, Value.int IntKind.i64 x2, Value.int IntKind.i64 x3, Value.int IntKind.i64 x4, Value.int IntKind.i64 x5, Value.int IntKind.i64 x6, Value.int IntKind.i64 x7, Value.int IntKind.i64 x8, Value.int IntKind.i64 x9, Value.int IntKind.i64 x10, Value.int IntKind.i64 x11, Value.int IntKind.i64 x12, Value.int IntKind.i64 x13, Value.int IntKind.i64 x14, Value.int IntKind.i64 x15] 57 (0, 0))).alloc (.cells #[Value.int IntKind.i64 0, Value.int IntKind.i64 0, Value.int IntKind.i64 0, Value.int IntKind.i64 0, Value.int IntKind.i64 0, Value.int IntKind.i64 0, Value.int IntKind.i64 0, Value.int IntKind.i64 0, Value.int IntKind.i64 0, Value.int IntKind.i64 0, Value.int IntKind.i64 0, Value.int IntKind.i64 0, Value.int IntKind.i64 0, Value.int IntKind.i64 0, Value.int IntKind.i64 0, Value.int IntKind.i64 0] 57 (0, 0))) = W0 at bC bN hB0 ⊢
    obtain ⟨g5, hg5⟩ : ∃ g5, w4.heap.size = g5 := ⟨_, rfl⟩
    rw [hg5] at bC bN hG ⊢
    have bC := show W0.heap[g5]? = some (.cells (vec16 [x0, x1, x2, x3, x4, x5, x6, x7, x8, x9, x10, x11, x12, x13, x14, x15]) 57 (0, 0)) from bC
    have bN := show W0.heap[g5 + 1]? = some (.cells (vec16 (nextL [x0, x1, x2, x3, x4, x5, x6, x7, x8, x9, x10, x11, x12, x13, x14, x15] 0)) 57 (0, 0)) from bN
    rw [HCS.out] at bC bN
    have hlen3 := hlen2.out
    rw [HCS.out] at hlen3
    have HLEN := Aside0.mk hlen3
    clear hlen3
    generalize (Value.agg #[Value.int IntKind.i64 x0, Value.int IntKind.i64 x1, Value.int IntKind.i64 x2, Value.int IntKind.i64 x3, Value.int IntKind.i64 x4, Value.int IntKind.i64 x5, Value.int IntKind.i64 x6, Value.int IntKind.i64 x7, Value.int IntKind.i64 x8, Value.int IntKind.i64 x9, Value.int IntKind.i64 x10, Value.int IntKind.i64 x11, Value.int IntKind.i64 x12, Value.int IntKind.i64 x13, Value.int IntKind.i64 x14, Value.int IntKind.i64 x15]) = vagg
    generalize (Value.tuple #[vagg, Value.bool true]) = vtup
    clear hg5
    gi_loopw [8] (fun i wr => ∃ k : Nat, k ≤ 15 ∧ i = .int .i64 ((k + 1 : Nat) : Int) ∧ wr.heap[g5]? = some (.cells (vec16 cs) 57 (0, 0)) ∧ wr.heap[g5 + 1]? = some (.cells (vec16 (nextL cs k)) 57 (0, 0)) ∧ Below w.heap.size w wr)
      (fun i _ => 17 - (intOf i).toNat)
    case atStart => exact ⟨0, by omega, rfl, bC, bN, hB0⟩
    case round =>
      obtain ⟨k, hk, rfl, hC, hN, hBr⟩ := hrel
      have hnl := nextL_len cs k
      by_cases h15 : k = 15
      · subst h15
        have q0 := eq_false (show ¬ ((15 + 1 : Nat) : Int) ≤ 15 by omega)
        have hmk := run_make_row' (P := Try.prog) 22 3 (.int .i64 0) 8 (by kernel_rfl) (by kernel_rfl) rfl .i64 .i64 l.length (by have := HL.out; omega) (by have := HL.out; omega)
        clear hk hnl
        gi_wp2_with (refine ⟨trivial, ?_⟩; gi_at_call 26; refine (used_in Fence.wide 2 trivial rfl _ _ _ _).mono ?_; rintro e w' ⟨rfl, rfl⟩)
        have bO := blk_alloc (blk_alloc (blk_new wr (.cells (madeCells #[Value.int IntKind.i64 0] l.length) 3 (0, 0))) (.cells #[Value.slice (some ⟨wr.heap.size, 0, none⟩) l.length l.length] 22 (0, 0))) (.cells #[Value.slice A l.length c] 22 (0, 0))
        have bV := blk_alloc (blk_new (wr.alloc (.cells (madeCells #[Value.int IntKind.i64 0] l.length) 3 (0, 0))) (.cells #[Value.slice (some ⟨wr.heap.size, 0, none⟩) l.length l.length] 22 (0, 0))) (.cells #[Value.slice A l.length c] 22 (0, 0))
        have bB := blk_new ((wr.alloc (.cells (madeCells #[Value.int IntKind.i64 0] l.length) 3 (0, 0))).alloc (.cells #[Value.slice (some ⟨wr.heap.size, 0, none⟩) l.length l.length] 22 (0, 0))) (.cells #[Value.slice A l.length c] 22 (0, 0))
        have bN3 := blk_alloc (blk_alloc (blk_alloc hN (.cells (madeCells #[Value.int IntKind.i64 0] l.length) 3 (0, 0))) (.cells #[Value.slice (some ⟨wr.heap.size, 0, none⟩) l.length l.length] 22 (0, 0))) (.cells #[Value.slice A l.length c] 22 (0, 0))
        simp only [World.size_alloc] at bV bB
        have hB1 : Below w.heap.size w (((wr.alloc (.cells (madeCells #[Value.int IntKind.i64 0] l.length) 3 (0, 0))).alloc (.cells #[Value.slice (some ⟨wr.heap.size, 0, none⟩) l.length l.length] 22 (0, 0))).alloc (.cells #[Value.slice A l.length c] 22 (0, 0))) := below_alloc (below_alloc (below_alloc hBr _) _) _
        have hsz : (((wr.alloc (.cells (madeCells #[Value.int IntKind.i64 0] l.length) 3 (0, 0))).alloc (.cells #[Value.slice (some ⟨wr.heap.size, 0, none⟩) l.length l.length] 22 (0, 0))).alloc (.cells #[Value.slice A l.length c] 22 (0, 0))).heap.size = wr.heap.size + 3 := by simp only [World.size_alloc]
        have hlt5 := blk_lt hN
        have hG2 := hBr.size
        generalize (((wr.alloc (.cells (madeCells #[Value.int IntKind.i64 0] l.length) 3 (0, 0))).alloc (.cells #[Value.slice (some ⟨wr.heap.size, 0, none⟩) l.length l.length] 22 (0, 0))).alloc (.cells #[Value.slice A l.length c] 22 (0, 0))) = W1 at bO bV bB bN3 hB1 hsz ⊢
        obtain ⟨g, hg⟩ : ∃ g, wr.heap.size = g := ⟨_, rfl⟩
        rw [hg] at bO bV bB hsz hlt5 hG2 ⊢
        rw [madeCells_vec] at bO
        clear hN hC hBr hmk hg q0
        have hHL := HL.out
        have hbl : ∀ ad, A = some ad → ad.block < w.heap.size := fun ad e => by
          subst e
          obtain ⟨ad', e, hx⟩ := Kd.at_int hr 0 (by omega) (by omega)
          injection e with e
          subst e
          exact World.block_lt_of_cell? w _ hx
        have o1 : ∀ (g t : Nat) (cs : Array Value), OwnFrom (β := List (Used l)) W1.heap.size (fun _ W => W.heap[g]? = some (.cells cs t (0, 0))) := fun g t cs => Own.from (blk_own (β := List (Used l)) (fun _ => g) (fun _ => t) (fun _ => cs)) _
        have o2 : OwnFrom (β := List (Used l)) W1.heap.size (fun pre W => W.heap[g]? = some (.cells (vec16 (codesL l cs (pre.map Subtype.val)).1) 3 (0, 0))) := Own.from (blk_own (fun _ => g) (fun _ => 3) (fun (pre : List (Used l)) => vec16 (codesL l cs (pre.map Subtype.val)).1)) _
        have o3 : OwnFrom (β := List (Used l)) W1.heap.size (fun pre W => W.heap[g5 + 1]? = some (.cells (vec16 (codesL l cs (pre.map Subtype.val)).2) 57 (0, 0))) := Own.from (blk_own (fun _ => g5 + 1) (fun _ => 57) (fun (pre : List (Used l)) => vec16 (codesL l cs (pre.map Subtype.val)).2)) _
        have o4 : OwnFrom (β := List (Used l)) W1.heap.size (fun _ W => Below w.heap.size w W) := ownFrom_below (Nat.le_refl _) (by omega)
        refine wpIn_rangeFunc_ownG rfl (by decide) (gf := 41) (lb := #[.pointer (some ⟨g + 1 + 1, 0, none⟩)]) rfl trivial (enters_of Try.func41 (by kernel_rfl) rfl)
          (used_stops_mem Fence.wide 2 trivial rfl (by omega) (g + 1 + 1) w.heap.size A l.length c l rfl (by omega) hbl W1 (blk_lt bB) (by omega) ((blk_cell bB 0).trans rfl) (Kd.C_below hr hB1)) belowK_t (belowK_b (by omega)) (Below.refl _ _) (fun _ => rfl)
          (fun pre W => W.heap[g]? = some (.cells (vec16 (codesL l cs (pre.map Subtype.val)).1) 3 (0, 0)) ∧ W.heap[g5 + 1]? = some (.cells (vec16 (codesL l cs (pre.map Subtype.val)).2) 57 (0, 0)) ∧ W.heap[g + 1]? = some (.cells #[Value.slice (some ⟨g, 0, none⟩) l.length l.length] 22 (0, 0)) ∧ Below w.heap.size w W)
          (fun _ _ _ => False)
          (OwnFrom.and o2 (OwnFrom.and o3 (OwnFrom.and (o1 _ _ _) o4)))
          (fun c => fun _ _ _ _ h _ _ => h)
          ⟨bO, bN3, bV, hB1⟩ ?_ ?assign ?body ?done ?stop
        case assign =>
          intro l x W K hK
          gi_wp2
          exact hK
        case stop =>
          rintro D c pre W hD _ hF
          exact hF.elim
        case body =>
          rintro lp pre ⟨⟨sym, y⟩, hx⟩ W ⟨hO, hN, hV, hB⟩ _
          have hx1 := (usedL_mem hx).1
          obtain ⟨hy0, hy15⟩ := HLS.out _ hx
          dsimp only at hx1 hy0 hy15
          have hl1 := codesL_len1 l cs (pre.map Subtype.val)
          have hl2 := codesL_len2 l cs (pre.map Subtype.val)
          have HSN := Aside0.mk (codesL_snoc l cs (pre.map Subtype.val) (sym, y))
          obtain ⟨s1, s2⟩ : ∃ s, codesL l cs (pre.map Subtype.val) = s := ⟨_, rfl⟩
          obtain ⟨o, nx⟩ := s1
          rw [s2] at hO hN hl1 hl2 HSN
          dsimp only at hO hN hl1 hl2
          obtain ⟨yn, rfl⟩ : ∃ yn : Nat, y = (yn : Int) := ⟨y.toNat, by omega⟩
          have hcn : W.cell? ⟨g5 + 1, yn, none⟩ = some (.int .i64 (rd nx (yn : Int))) := vec_at hN yn (by omega)
          have hco : W.cell? ⟨g, sym, none⟩ = some (.int .i64 (rd o (sym : Int))) := vec_at hO sym (by omega)
          have hfn := blk_frozen hN yn
          have hfo := blk_frozen hO sym
          have hcv : W.cell? ⟨g + 1, 0, none⟩ = some (Value.slice (some ⟨g, 0, none⟩) l.length l.length) := (blk_cell hV 0).trans rfl
          have i1 := eq_true (show (yn : Int) < 16 by omega)
          have i2 := eq_true (show yn < 16 by omega)
          have i3 := eq_true hx1
          have i4 := eq_true (show (sym : Int) < (l.length : Int) by omega)
          have i5 := eq_false (show ¬ g5 + 1 = g by omega)
          have i6 := eq_false (show ¬ g = g5 + 1 by omega)
          clear hy0 hy15 hx1 s2
          gi_wp2
          gi_region
          all_goals gi_wp2
          all_goals
            have hm : List.map Subtype.val (pre ++ [(⟨(sym, (yn : Int)), hx⟩ : Used l)]) = List.map Subtype.val pre ++ [(sym, (yn : Int))] := by rw [List.map_append]; rfl
            have e1 := HSN.out
            rw [← hm] at e1
            have hk := (KeepsOthers.setCell W ⟨g, sym, none⟩ (Value.int IntKind.i64 (rd nx (yn : Int)))).trans (KeepsOthers.setCell _ ⟨g5 + 1, yn, none⟩ (Value.int IntKind.i64 (wrap64 (rd nx (yn : Int) + 1))))
            have f1 := blk_far (p := ⟨g5 + 1, yn, none⟩) (blk_put hO sym (Value.int IntKind.i64 (rd nx (yn : Int))) (vec_set o sym _)) (show g ≠ g5 + 1 by omega) (Value.int IntKind.i64 (wrap64 (rd nx (yn : Int) + 1)))
            have f2 := blk_put (blk_far (p := ⟨g, sym, none⟩) hN (show g5 + 1 ≠ g by omega) (Value.int IntKind.i64 (rd nx (yn : Int)))) yn (Value.int IntKind.i64 (wrap64 (rd nx (yn : Int) + 1))) (vec_set nx yn _)
            have f3 := blk_far (p := ⟨g5 + 1, yn, none⟩) (blk_far (p := ⟨g, sym, none⟩) hV (show g + 1 ≠ g by omega) (Value.int IntKind.i64 (rd nx (yn : Int)))) (show g + 1 ≠ g5 + 1 by omega) (Value.int IntKind.i64 (wrap64 (rd nx (yn : Int) + 1)))
            have f4 := ((Below.refl w.heap.size W).setCell (p := ⟨g, sym, none⟩) hG2 (Value.int IntKind.i64 (rd nx (yn : Int)))).setCell (p := ⟨g5 + 1, yn, none⟩) (show w.heap.size ≤ g5 + 1 by omega) (Value.int IntKind.i64 (wrap64 (rd nx (yn : Int) + 1)))
            refine ⟨⟨hk.size, fun k o _ hk1 hk2 => hk.same k o hk1 hk2⟩, below_drew f4, ?_, ?_, f3, below_drew (hB.trans f4)⟩
            · rw [e1]
              exact f1
            · rw [e1]
              exact f2
        case done =>
          rintro D xs W hD hS ⟨hO, hN, hV, hB⟩ hK
          have hcv : W.cell? ⟨g + 1, 0, none⟩ = some (Value.slice (some ⟨g, 0, none⟩) l.length l.length) := (blk_cell hV 0).trans rfl
          gi_wp2
          refine ⟨by simp, .inl ⟨_, _, rfl, run_takeDeferred hK, ?_⟩⟩
          have e2 := ((grownBy_putObj' W D (.deferred none)).block g (blk_lt hO) (by intro e; injection e with e; omega)).trans hO
          have hl1 := codesL_len1 l cs (xs.map Subtype.val)
          rw [hS] at e2 hl1
          refine ⟨.tuple #[Value.slice (some ⟨g, 0, none⟩) l.length l.length, .int .i64 0], ?_, ⟨_, rfl, ?_, hB.trans (belowK_b (w := w) (Nat.le_refl _) W D _ _ (by omega) hK rfl rfl)⟩⟩
          · first | rfl | (simp [results, Try.f11]; done)
          · have h := R_of_vec e2 hG2 (by omega)
            rwa [hl1] at h
      · have q0 := eq_true (show ((k + 1 : Nat) : Int) ≤ 15 by omega)
        have q1 := eq_true (show (k : Int) + 1 ≤ 15 by omega)
        have q2 := eq_true (show (k : Int) < 16 by omega)
        have q3 := eq_true (show (k : Int) + 1 < 16 by omega)
        have q4 := eq_true (show k < 16 by omega)
        have q5 := eq_true (show k + 1 < 16 by omega)
        have q6 := eq_true (show k + 1 ≤ 15 by omega)
        have q7 := eq_true (show k ≤ 14 by omega)
        have q8 := eq_true (show k < 15 by omega)
        have hcN : wr.cell? ⟨g5 + 1, k, none⟩ = some (.int .i64 (rd (nextL cs k) k)) := vec_cell hN hnl k (by omega)
        have hcC : wr.cell? ⟨g5, k, none⟩ = some (.int .i64 (rd cs k)) := vec_cell hC HLEN.out k (by omega)
        have hcN1 : wr.cell? ⟨g5 + 1, k + 1, none⟩ = some (.int .i64 (rd (nextL cs k) ((k + 1 : Nat) : Int))) := vec_cell hN hnl (k + 1) (by omega)
        have hfN := blk_frozen hN (k + 1)
        have hns : nextL cs (k + 1) = (nextL cs k).set (k + 1) (wrap64 (wrap64 (rd (nextL cs k) (k : Int) + rd cs (k : Int)) * 2)) := rfl
        have HNS := Aside0.mk hns
        clear hns
        gi_wp2
        gi_region
        gi_wp2
        go_roundw
        case rel => exact ⟨k + 1, by omega, by first | rfl | simp, blk_far (p := ⟨g5 + 1, k + 1, none⟩) (show wr.drew.heap[g5]? = _ from hC) (show g5 ≠ g5 + 1 by omega) _, blk_put (show wr.drew.heap[g5 + 1]? = _ from hN) (k + 1) _ (by rw [HNS.out]; unfold vec16; rw [List.setIfInBounds_toArray, List.map_set]), (below_drew hBr).setCell (p := ⟨g5 + 1, k + 1, none⟩) (show w.heap.size ≤ g5 + 1 by omega) _⟩
        case measure => simp [intOf]; omega
end
theorem huff_Codes_in (A : Option Addr) (c : Nat) (l : List Int) (w : World) (hr : (Kd.int .i64).C w A l.length l) : Calls Try.prog 11 #[.slice A l.length c] w fun e w' => ∃ v, e = .returned (.tuple #[v, .int .i64 (codesS l).2]) ∧ Kd.R (Kd.int .i64) 3 w' w.heap.size (fun _ => True) v (codesS l).1 ∧ Below w.heap.size w w' := by
  by_cases hs : checkS l ≠ 0 ∧ checkS l ≠ 12
  · refine (codes_bad A c l w hr hs).mono ?_
    rintro e w' ⟨rfl, hb⟩
    refine ⟨_, rfl, ?_, hb⟩
    have : (codesS l).1 = [] := by unfold codesS; rw [if_pos hs]
    rw [this]
    exact Kd.R_nil _ _ _ _ _
  · exact codes_ok A c l w hr hs
end Go.Proofs.Ythcndpdfcippiaa.Hu
