-- A text by hand (wip/locks).
import Derived.RangeFuncNested
import Derived.RangeFuncBound
import Derived.RangeFuncCalls
import Derived.RangeFuncLeaves
import Derived.RangeFuncBox
import Derived.Shelf.Abstract
import Derived.Shelf.RegionOpen
import Derived.OwnWalkIn
import Derived.TacticsInMore
import Derived.LoopNIn
import Derived.LoopIn
import Derived.Test.YtdhabfjfpbdjfaaPr0
import Derived.Test.YtdhabfjfpbdjfaaLk3
import Derived.Test.YtdhabfjfpbdjfaaLk6
import Derived.Test.YtdhabfjfpbdjfaaLk7
namespace Go.Proofs.Ytdhabfjfpbdjfaa.Pr
open Go.RowKit Go.Shelf Go.Proofs.YtdhabfjfpbdjfaaW.PrintWords Go.Proofs.YtdhabfjfpbdjfaaW.PrintLast Go.Proofs.YtdhabfjfpbdjfaaW.PrintMore
set_option linter.unusedVariables false
set_option linter.unusedSimpArgs false

abbrev LP := List (ByteArray × List S63 × List S63)
def projR (r : LRec) : ByteArray × List S63 × List S63 := (r.key, r.h, r.w)
def lookP (key : ByteArray) : LP → Option (List S63 × List S63)
  | [] => none
  | p :: P => if key = p.1 then some p.2 else lookP key P
def setP (key : ByteArray) (x : List S63 × List S63) : LP → LP
  | [] => []
  | p :: P => if key = p.1 then (p.1, x) :: P else p :: setP key x P
def delP (key : ByteArray) : LP → LP
  | [] => []
  | p :: P => if key = p.1 then P else p :: delP key P
def okC (who : Int) : Prop := 0 ≤ who ∧ who < 8
instance (who : Int) : Decidable (okC who) := by unfold okC; infer_instance
/-- Ask. -/
def askP (who : Int) (key : ByteArray) (wr : Bool) (P : LP) : LP × Bool × Int :=
  if okC who then (match lookP key P with
    | none => (P ++ [(key, [⟨who, wr⟩], [])], true, 0)
    | some (h, w) => if hasF h who then (P, false, 18) else if hasF w who then (P, false, 18) else
        if w.isEmpty && mayF h wr then (setP key (h ++ [⟨who, wr⟩], w) P, true, 0) else (setP key (h, w ++ [⟨who, wr⟩]) P, false, 0))
  else (P, false, 2)
/-- Who waits comes to hold, as long as he may. -/
def grantF : List S63 → List S63 → List S63 × List S63 × List Int
  | h, [] => (h, [], [])
  | h, a :: w => if mayF h a.f1 then ((grantF (h ++ [a]) w).1, (grantF (h ++ [a]) w).2.1, a.f0 :: (grantF (h ++ [a]) w).2.2) else (h, a :: w, [])
/-- Free. -/
def freeP (who : Int) (key : ByteArray) (P : LP) : LP × List Int × Int :=
  if okC who then (match lookP key P with
    | none => (P, [], 9)
    | some (h, w) => if hasF h who then (if (grantF (notF h who) w).1.isEmpty then delP key P else setP key ((grantF (notF h who) w).1, (grantF (notF h who) w).2.1) P, (grantF (notF h who) w).2.2, 0) else (P, [], 9))
  else (P, [], 2)
def holdsP (key : ByteArray) (P : LP) : List Int × Bool := match lookP key P with
  | none => ([], false)
  | some (h, w) => (whoL h, !h.isEmpty && (rd_T63 h 0).f1)
def waitsP (key : ByteArray) (P : LP) : List Int := match lookP key P with
  | none => []
  | some (h, w) => whoL w
theorem look_none {key : ByteArray} : ∀ {S : List LRec} {i : Nat}, findE key S i = none → lookP key (S.map projR) = none
  | [], _, _ => rfl
  | r :: S, i, h => by
    rw [findE] at h
    rw [List.map_cons, lookP]
    by_cases e : key = r.key
    · rw [if_pos e] at h; cases h
    · rw [if_neg e] at h
      rw [if_neg (show ¬ key = (projR r).1 from e)]
      exact look_none h
theorem look_some {key : ByteArray} {r : LRec} {S2 : List LRec} (hr : r.key = key) : ∀ {S1 : List LRec}, (∀ s ∈ S1, s.key ≠ key) → lookP key ((S1 ++ r :: S2).map projR) = some (r.h, r.w)
  | [], _ => by rw [List.nil_append, List.map_cons, lookP, if_pos (show key = (projR r).1 from hr.symm)]; rfl
  | s :: S1, h => by
    rw [List.cons_append, List.map_cons, lookP, if_neg (show ¬ key = (projR s).1 from fun e => h s (by simp) e.symm)]
    exact look_some hr (fun s hs => h s (by simp [hs]))
theorem set_some {key : ByteArray} {r r' : LRec} {S2 : List LRec} (hr : r.key = key) (hr' : r'.key = key) : ∀ {S1 : List LRec}, (∀ s ∈ S1, s.key ≠ key) → setP key (r'.h, r'.w) ((S1 ++ r :: S2).map projR) = (S1 ++ r' :: S2).map projR
  | [], _ => by
    rw [List.nil_append, List.nil_append, List.map_cons, List.map_cons, setP, if_pos (show key = (projR r).1 from hr.symm)]
    unfold projR
    rw [hr, hr']
  | s :: S1, h => by
    rw [List.cons_append, List.cons_append, List.map_cons, List.map_cons, setP, if_neg (show ¬ key = (projR s).1 from fun e => h s (by simp) e.symm)]
    rw [set_some hr hr' (fun s hs => h s (by simp [hs]))]
theorem del_some {key : ByteArray} {r : LRec} {S2 : List LRec} (hr : r.key = key) : ∀ {S1 : List LRec}, (∀ s ∈ S1, s.key ≠ key) → delP key ((S1 ++ r :: S2).map projR) = (S1 ++ S2).map projR
  | [], _ => by rw [List.nil_append, List.nil_append, List.map_cons, delP, if_pos (show key = (projR r).1 from hr.symm)]
  | s :: S1, h => by
    rw [List.cons_append, List.cons_append, List.map_cons, List.map_cons, delP, if_neg (show ¬ key = (projR s).1 from fun e => h s (by simp) e.symm)]
    rw [del_some hr (fun s hs => h s (by simp [hs]))]
theorem grantF_len : ∀ (w h : List S63), (grantF h w).1.length + (grantF h w).2.1.length = h.length + w.length
  | [], h => by simp [grantF]
  | a :: w, h => by
    rw [grantF]
    by_cases c : mayF h a.f1 = true
    · rw [if_pos c]
      have := grantF_len w (h ++ [a])
      simp at this ⊢
      omega
    · rw [if_neg c]
/-! A lock's calls -/
theorem RecAt.holds_ {W : World} {base : Nat} {r : LRec} (h : RecAt W base r) : ∃ A c, r.vh = .slice A r.h.length c ∧ r.h.length ≤ c ∧ Kd.C k63 W A r.h.length r.h ∧ (∀ ad, A = some ad → ad.block < W.heap.size) ∧ W.cell? ⟨r.g, 0, none⟩ = some (.slice A r.h.length c) ∧ W.cell? ⟨r.g, 1, none⟩ = some r.vw := by
  obtain ⟨h1, h2, h3, h4, h5⟩ := h
  obtain ⟨A, c, e⟩ := Kd.R_slice h3
  have hw : W.cell? ⟨r.g, 1, none⟩ = some r.vw := (blk_cell h1 1).trans rfl
  rw [e] at h1 h3
  refine ⟨A, c, e, (Kd.R_reads' h3).2.1, (Kd.R_reads' h3).2.2, fun ad ea => ?_, (blk_cell h1 0).trans rfl, hw⟩
  subst ea
  obtain ⟨cs, hc⟩ := Kd.R_typed h3 ad.block rfl
  exact blk_lt hc
theorem RecAt.waits_ {W : World} {base : Nat} {r : LRec} (h : RecAt W base r) : ∃ A c, r.vw = .slice A r.w.length c ∧ r.w.length ≤ c ∧ Kd.C k63 W A r.w.length r.w ∧ (∀ ad, A = some ad → ad.block < W.heap.size) ∧ W.cell? ⟨r.g, 1, none⟩ = some (.slice A r.w.length c) ∧ W.cell? ⟨r.g, 0, none⟩ = some r.vh := by
  obtain ⟨h1, h2, h3, h4, h5⟩ := h
  obtain ⟨A, c, e, hl⟩ := Kd.Q_slice h4
  have hw : W.cell? ⟨r.g, 0, none⟩ = some r.vh := (blk_cell h1 0).trans rfl
  rw [e] at h1 h4
  refine ⟨A, c, e, hl, (Kd.Q_reads' h4).2.2, fun ad ea => ?_, (blk_cell h1 1).trans rfl, hw⟩
  subst ea
  obtain ⟨cs, hc⟩ := Kd.Q_typed h4 ad.block rfl
  exact blk_lt hc
theorem RecAt.lt {W : World} {base : Nat} {r : LRec} (h : RecAt W base r) : r.g < W.heap.size := blk_lt h.1
theorem may_r {W : World} {base : Nat} {r : LRec} (h : RecAt W base r) (wr : Bool) : Calls Try.prog 25 #[.pointer (some ⟨r.g, 0, none⟩), .bool wr] W fun e w' => e = .returned (.bool (mayF r.h wr)) ∧ w' = W := by
  obtain ⟨A, c, e, _, hc, _, _, _⟩ := h.holds_
  have h1 := h.1
  rw [e] at h1
  exact may_calls r.g A c r.vw r.h wr W h1 hc
theorem has_ask1_h {W : World} {base : Nat} {r : LRec} (h : RecAt W base r) (gw : Nat) (who : Int) (hl : r.h.length ≤ 1048576) (hw : W.heap[gw]? = some (cellW who)) : Calls Try.prog 23 #[.pointer (some ⟨r.g, 0, none⟩), .func (.func 26) #[] #[.pointer (some ⟨gw, 0, none⟩)]] W fun e w' => e = .returned (.bool (hasF r.h who)) ∧ Below W.heap.size W w' := by
  obtain ⟨A, c, e, _, hc, hb, hq, _⟩ := h.holds_
  exact has_ask1_calls r.g 0 gw A c r.h who W h.lt hq hc hb (by omega) hw
theorem has_ask1_w {W : World} {base : Nat} {r : LRec} (h : RecAt W base r) (gw : Nat) (who : Int) (hl : r.w.length ≤ 1048576) (hw : W.heap[gw]? = some (cellW who)) : Calls Try.prog 23 #[.pointer (some ⟨r.g, 1, none⟩), .func (.func 26) #[] #[.pointer (some ⟨gw, 0, none⟩)]] W fun e w' => e = .returned (.bool (hasF r.w who)) ∧ Below W.heap.size W w' := by
  obtain ⟨A, c, e, _, hc, hb, hq, _⟩ := h.waits_
  exact has_ask1_calls r.g 1 gw A c r.w who W h.lt hq hc hb (by omega) hw
theorem has_free1_h {W : World} {base : Nat} {r : LRec} (h : RecAt W base r) (gw : Nat) (who : Int) (hl : r.h.length ≤ 1048576) (hw : W.heap[gw]? = some (cellW who)) : Calls Try.prog 23 #[.pointer (some ⟨r.g, 0, none⟩), .func (.func 22) #[] #[.pointer (some ⟨gw, 0, none⟩)]] W fun e w' => e = .returned (.bool (hasF r.h who)) ∧ Below W.heap.size W w' := by
  obtain ⟨A, c, e, _, hc, hb, hq, _⟩ := h.holds_
  exact has_free1_calls r.g 0 gw A c r.h who W h.lt hq hc hb (by omega) hw
theorem has_free1_w {W : World} {base : Nat} {r : LRec} (h : RecAt W base r) (gw : Nat) (who : Int) (hl : r.w.length ≤ 1048576) (hw : W.heap[gw]? = some (cellW who)) : Calls Try.prog 23 #[.pointer (some ⟨r.g, 1, none⟩), .func (.func 22) #[] #[.pointer (some ⟨gw, 0, none⟩)]] W fun e w' => e = .returned (.bool (hasF r.w who)) ∧ Below W.heap.size W w' := by
  obtain ⟨A, c, e, _, hc, hb, hq, _⟩ := h.waits_
  exact has_free1_calls r.g 1 gw A c r.w who W h.lt hq hc hb (by omega) hw
theorem whose_h {W : World} {base : Nat} {r : LRec} (h : RecAt W base r) (hl : r.h.length ≤ 1048576) : Calls Try.prog 20 #[.pointer (some ⟨r.g, 0, none⟩)] W fun e w' => ∃ v, e = .returned v ∧ Kd.R (Kd.int .i64) 3 w' W.heap.size (fun _ => True) v (whoL r.h) ∧ Below W.heap.size W w' := by
  obtain ⟨A, c, e, _, hc, hb, hq, _⟩ := h.holds_
  exact whose_calls r.g 0 A c r.h W h.lt hq hc hb hl
theorem whose_w {W : World} {base : Nat} {r : LRec} (h : RecAt W base r) (hl : r.w.length ≤ 1048576) : Calls Try.prog 20 #[.pointer (some ⟨r.g, 1, none⟩)] W fun e w' => ∃ v, e = .returned v ∧ Kd.R (Kd.int .i64) 3 w' W.heap.size (fun _ => True) v (whoL r.w) ∧ Below W.heap.size W w' := by
  obtain ⟨A, c, e, _, hc, hb, hq, _⟩ := h.waits_
  exact whose_calls r.g 1 A c r.w W h.lt hq hc hb hl

/-- Locks in memory: their block, what they hold. -/
def LocksAt [Obs] (W : World) (base gl : Nat) (P : LP) : Prop := ∃ B clk S, LockAt W base gl B clk S ∧ S.map projR = P
def SmallP (P : LP) : Prop := ∀ p ∈ P, p.2.1.length ≤ 100000 ∧ p.2.2.length ≤ 100000
theorem LocksAt.below [Obs] {W W' : World} {base gl : Nat} {P : LP} (h : LocksAt W base gl P) (hb : Below W.heap.size W W') : LocksAt W' base gl P := by
  obtain ⟨B, clk, S, h1, h2⟩ := h
  exact ⟨B, clk, S, h1.below hb, h2⟩
theorem LocksAt.observe {O O2 : Obs} {W : World} {base gl : Nat} {P : LP} (h : @LocksAt O W base gl P) (hs : @Seen O2 W) : @LocksAt O2 W base gl P := by
  obtain ⟨B, clk, S, ⟨h1, h2, h3, h4, h5, h6, _⟩, h8⟩ := h
  exact ⟨B, clk, S, ⟨h1, h2, h3, h4, h5, h6, hs⟩, h8⟩
theorem LocksAt.seen {O : Obs} {W : World} {base gl : Nat} {P : LP} (h : @LocksAt O W base gl P) : @Seen O W := by
  obtain ⟨B, clk, S, ⟨_, _, _, _, _, _, h7⟩, _⟩ := h
  exact h7
theorem seen_none (W : World) : @Seen Obs.none W := ⟨fun _ _ h => h.elim, Nat.zero_le _⟩
/-- All that is no lock's is looked at. -/
abbrev obsAll (W : World) : Obs := ⟨⟨fun k o => W.heap[k]? = some o ∧ OffT o, W.heap.size⟩⟩
theorem seen_all (W : World) : @Seen (obsAll W) W := ⟨fun k o h => ⟨blk_lt h.1, h.1, h.2⟩, Nat.le_refl _⟩
/-- What is no lock's lies as it lay. -/
def Off (W W' : World) : Prop := Kept W W' (fun k => ¬ ∃ o, W.heap[k]? = some o ∧ OffT o)
theorem off_of {W W' : World} (h : @Seen (obsAll W) W') : Off W W' := by
  refine ⟨h.2, fun i hi hn => ?_⟩
  cases hc : W.heap[i]? with
  | none => rw [Array.getElem?_eq_none_iff] at hc; omega
  | some o =>
    by_cases ho : OffT o
    · exact (h.1 i o ⟨hc, ho⟩).2.1
    · exact absurd (fun ⟨o', h1, h2⟩ => ho (by rw [hc] at h1; injection h1 with h1; rw [h1]; exact h2)) hn
end Go.Proofs.Ytdhabfjfpbdjfaa.Pr
