-- A text by hand (wip/locks).
import Derived.RangeFuncNested
import Derived.RangeFuncBound
import Derived.RangeFuncCalls
import Derived.RangeFuncLeaves
import Derived.RangeFuncBox
import Derived.Shelf.Abstract
import Derived.Shelf.RegionOpen
import Derived.OwnWalkIn
import Derived.TacticsInMore
import Derived.LoopNIn
import Derived.LoopIn
import Derived.Laws.Strings
import Derived.Test.YtdhabfjfpbdjfaaPr0
import Derived.Test.YtdhabfjfpbdjfaaLk17
import Derived.Test.YtdhabfjfpbdjfaaLk16
import Derived.Test.YtdhabfjfpbdjfaaPr1
import Derived.Test.YtdhabfjfpbdjfaaPr2
import Derived.Test.YtdhabfjfpbdjfaaPr3
import Derived.Test.YtdhabfjfpbdjfaaPr4
namespace Go.Proofs.Ytdhabfjfpbdjfaa.Pr
open Go.RowKit Go.Shelf Go.Proofs.YtdhabfjfpbdjfaaW.PrintWords Go.Proofs.YtdhabfjfpbdjfaaW.PrintLast Go.Proofs.YtdhabfjfpbdjfaaW.PrintMore
set_option linter.unusedVariables false
set_option linter.unusedSimpArgs false

section
theorem str_eq {a b : ByteArray} : (a.toList = b.toList) = (a = b) := by
  apply propext
  constructor
  · intro h
    rw [ByteArray.toList_eq, ByteArray.toList_eq] at h
    exact ByteArray.ext (Array.toList_inj.1 h)
  · intro h; rw [h]
theorem ite_str {α : Type} {a b : ByteArray} {x y : α} : (if a.toList = b.toList then x else y) = if a = b then x else y := by
  by_cases h : a = b
  · rw [if_pos h, if_pos (by rw [h])]
  · rw [if_neg h, if_neg (fun e => h (by rw [← str_eq]; exact e))]
def asL (key : ByteArray) (b : Bool) (l : List S63) : List S69 := l.map fun a => ⟨a.f0, key, a.f1, b⟩
def onK (key : ByteArray) (L : List S69) : List S69 := L.filter fun a => decide (a.f1 = key)
def getP (key : ByteArray) (P : LP) : List S63 × List S63 := (lookP key P).getD ([], [])
def RelL (P : LP) (L : List S69) : Prop := ∀ key, onK key L = asL key true (getP key P).1 ++ asL key false (getP key P).2
theorem rel_nil : RelL [] [] := fun _ => rfl
theorem asL_append (key : ByteArray) (b : Bool) (l l2 : List S63) : asL key b (l ++ l2) = asL key b l ++ asL key b l2 := List.map_append
theorem asL_mem {key : ByteArray} {b : Bool} {l : List S63} {x : S69} (h : x ∈ asL key b l) : x.f1 = key ∧ x.f3 = b ∧ ∃ a ∈ l, x.f0 = a.f0 ∧ x.f2 = a.f1 := by
  unfold asL at h
  rw [List.mem_map] at h
  obtain ⟨a, ha, rfl⟩ := h
  exact ⟨rfl, rfl, a, ha, rfl, rfl⟩
theorem onK_append (key : ByteArray) (L L2 : List S69) : onK key (L ++ L2) = onK key L ++ onK key L2 := List.filter_append _ _
theorem onK_one {key : ByteArray} {x : S69} (h : x.f1 = key) : onK key [x] = [x] := by unfold onK; simp [h]
theorem onK_no {key : ByteArray} {x : S69} (h : x.f1 ≠ key) : onK key [x] = [] := by unfold onK; simp [h]
/-! Reading a row -/
theorem rd69 {L : List S69} {i : Nat} (h : i < L.length) : rd_T69 L (i : Int) = L[i] := by
  unfold rd_T69
  rw [Int.toNat_natCast, List.getD_eq_getElem?_getD, List.getElem?_eq_getElem h]
  rfl
theorem drop69 {L : List S69} {i : Nat} (h : i < L.length) : L.drop i = rd_T69 L (i : Int) :: L.drop (i + 1) := by rw [rd69 h]; exact List.drop_eq_getElem_cons h
theorem wnext {i : Nat} (h : i < 1000000) : wrap64 ((i : Int) + 1) = ((i + 1 : Nat) : Int) := by rw [wrap64_id (by omega) (by omega)]; omega
def selB (key : ByteArray) (b : Bool) (L : List S69) : List S69 := L.filter fun a => decide (a.f1 = key) && (a.f3 == b)
theorem selB_of {key : ByteArray} {b : Bool} {L : List S69} : selB key b L = (onK key L).filter fun a => a.f3 == b := by
  unfold selB onK
  rw [List.filter_filter]
  congr 1
  funext a
  exact Bool.and_comm _ _
theorem sel_asL {key : ByteArray} {b c : Bool} {l : List S63} : (asL key b l).filter (fun a => a.f3 == c) = if b = c then asL key b l else [] := by
  by_cases h : b = c
  · rw [if_pos h]
    exact List.filter_eq_self.2 fun a ha => by rw [(asL_mem ha).2.1, h]; exact beq_self_eq_true _
  · rw [if_neg h]
    exact List.filter_eq_nil_iff.2 fun a ha => by rw [(asL_mem ha).2.1]; simpa using h
theorem sel_rel {key : ByteArray} {b : Bool} {L : List S69} {h w : List S63} (hk : onK key L = asL key true h ++ asL key false w) : selB key b L = asL key b (if b = true then h else w) := by
  rw [selB_of, hk, List.filter_append, sel_asL, sel_asL]
  cases b <;> simp
theorem of_l0 {key : ByteArray} {b : Bool} {L : List S69} (hL : L.length ≤ 1000) : ∀ (n i : Nat) (acc : List Int) (wr : Bool) (k : Nat), i + n = L.length → acc.length ≤ i → n < k → valiseref18_Locks_Of.l0 k key b acc wr (i : Int) L = some (acc ++ (selB key b (L.drop i)).map (·.f0), wr || (selB key b (L.drop i)).any (·.f2))
  | 0, i, acc, wr, 0, _, _, h => by omega
  | 0, i, acc, wr, k + 1, h1, h2, h3 => by
    rw [valiseref18_Locks_Of.l0, if_neg (by omega), List.drop_eq_nil_of_le (by omega)]
    unfold selB
    simp
  | n + 1, i, acc, wr, 0, _, _, h => by omega
  | n + 1, i, acc, wr, k + 1, h1, h2, h3 => by
    rw [valiseref18_Locks_Of.l0, if_pos (by omega), if_pos (by omega), ite_str, wnext (by omega), drop69 (by omega)]
    generalize rd_T69 L (i : Int) = x
    have ih := fun acc wr hl => of_l0 (b := b) (key := key) hL n (i + 1) acc wr k (by omega) hl (by omega)
    unfold selB at ih ⊢
    by_cases hx : x.f1 = key
    · rw [if_pos hx]
      by_cases hb : (x.f3 == b) = true
      · rw [if_pos hb, if_pos (by omega), List.filter_cons_of_pos (by simp [hx, hb])]
        simp only [Option.bind_some]
        have ha : (acc ++ [x.f0]).length ≤ i + 1 := by simp; omega
        by_cases hw : wr = true
        · rw [if_pos hw, ih _ _ ha]
          simp [hw]
        · rw [if_neg hw, ih _ _ ha]
          rw [Bool.not_eq_true] at hw
          simp [hw]
      · rw [if_neg hb, List.filter_cons_of_neg (by simp [hb]), ih _ _ (by omega)]
    · rw [if_neg hx, List.filter_cons_of_neg (by simp [hx]), ih _ _ (by omega)]
theorem of_f {key : ByteArray} {b : Bool} {L : List S69} (hL : L.length ≤ 1000) {k : Nat} (hk : L.length < k) : valiseref18_Locks_Of.f k L key b = some ((selB key b L).map (·.f0), (selB key b L).any (·.f2)) := by
  have := of_l0 (key := key) (b := b) hL L.length 0 [] false k (by omega) (by simp) hk
  unfold valiseref18_Locks_Of.f
  simpa using this
theorem asL_who {key : ByteArray} {b : Bool} {l : List S63} : (asL key b l).map (·.f0) = whoL l := by unfold asL whoL; rw [List.map_map]; rfl
theorem asL_any {key : ByteArray} {b : Bool} {l : List S63} : (asL key b l).any (·.f2) = l.any (·.f1) := by unfold asL; rw [List.any_map]; rfl
theorem of_rel {key : ByteArray} {b : Bool} {L : List S69} {h w : List S63} (hk : onK key L = asL key true h ++ asL key false w) (hL : L.length ≤ 1000) {k : Nat} (hf : L.length < k) : valiseref18_Locks_Of.f k L key b = some (whoL (if b = true then h else w), (if b = true then h else w).any (·.f1)) := by
  rw [of_f hL hf, sel_rel hk, asL_who, asL_any]
/-- Of rows of one writer, or of readers alone, the first tells whether they write. -/
theorem any_first {h : List S63} (ho : HOk h) : h.any (·.f1) = (!h.isEmpty && (rd_T63 h 0).f1) := by
  cases h with
  | nil => rfl
  | cons a t =>
    have e : rd_T63 (a :: t) 0 = a := rfl
    rw [e]
    rcases ho with hl | hf
    · rw [List.length_cons] at hl
      have : t = [] := List.eq_nil_of_length_eq_zero (by omega)
      subst this
      simp
    · have h1 : (a :: t).any (·.f1) = false := List.any_eq_false.2 fun x hx => by rw [hf x hx]; simp
      rw [h1, hf a (by simp)]
      rfl
theorem may_rel {key : ByteArray} {wr : Bool} {L : List S69} {h w : List S63} (hk : onK key L = asL key true h ++ asL key false w) (ho : HOk h) (hL : L.length ≤ 1000) {k : Nat} (hf : L.length < k) : valiseref18_Locks_may.f k L key wr = some (mayF h wr) := by
  unfold valiseref18_Locks_may.f mayF
  rw [of_rel (b := true) hk hL hf]
  simp only [if_true, Option.bind_some]
  rw [any_first ho]
  unfold whoL
  rw [List.length_map]
  cases h with
  | nil => rfl
  | cons a t =>
    have e : rd_T63 (a :: t) 0 = a := rfl
    rw [e, if_neg (by simp; omega)]
    cases wr <;> simp
/-! first -/
theorem first_none {key : ByteArray} {L : List S69} (hL : L.length ≤ 1000) : ∀ (n i k : Nat), i + n = L.length → n < k → (∀ a ∈ L.drop i, a.f1 = key → a.f3 = true) → valiseref18_Locks_first.l0 k key (i : Int) L = some (-1)
  | 0, i, 0, _, h, _ => by omega
  | 0, i, k + 1, h1, h2, h3 => by rw [valiseref18_Locks_first.l0, if_neg (by omega)]
  | n + 1, i, 0, _, h, _ => by omega
  | n + 1, i, k + 1, h1, h2, h3 => by
    rw [valiseref18_Locks_first.l0, if_pos (by omega), if_pos (by omega), ite_str, wnext (by omega)]
    rw [drop69 (by omega)] at h3
    generalize rd_T69 L (i : Int) = x at h3
    have ih := first_none hL n (i + 1) k (by omega) (by omega) (fun a ha => h3 a (List.mem_cons_of_mem _ ha))
    by_cases hx : x.f1 = key
    · rw [if_pos hx, if_pos (h3 x List.mem_cons_self hx), ih]
    · rw [if_neg hx, ih]
theorem first_some {key : ByteArray} {L L1 L2 : List S69} {x : S69} (e : L = L1 ++ x :: L2) (hx : x.f1 = key) (hx3 : x.f3 = false) (hL : L.length ≤ 1000) (h1 : ∀ a ∈ L1, a.f1 = key → a.f3 = true) : ∀ (n i k : Nat), i + n = L1.length → n < k → valiseref18_Locks_first.l0 k key (i : Int) L = some (L1.length : Int)
  | n, i, 0, _, h => by omega
  | 0, i, k + 1, h2, h3 => by
    have hl : L.length = L1.length + 1 + L2.length := by rw [e]; simp; omega
    have hr : rd_T69 L (i : Int) = x := by
      rw [rd69 (by omega)]
      subst e
      have : i = L1.length := by omega
      subst this
      simp
    rw [valiseref18_Locks_first.l0, if_pos (by omega), if_pos (by omega), ite_str, hr, if_pos hx, hx3, if_neg (by simp)]
    congr 1
    omega
  | n + 1, i, k + 1, h2, h3 => by
    have hl : L.length = L1.length + 1 + L2.length := by rw [e]; simp; omega
    rw [valiseref18_Locks_first.l0, if_pos (by omega), if_pos (by omega), ite_str, wnext (by omega)]
    have hm : rd_T69 L (i : Int) ∈ L1 := by
      rw [rd69 (by omega)]
      subst e
      rw [List.getElem_append_left (by omega)]
      exact List.getElem_mem _
    have ih := first_some e hx hx3 hL h1 n (i + 1) k (by omega) (by omega)
    by_cases hk : (rd_T69 L (i : Int)).f1 = key
    · rw [if_pos hk, if_pos (h1 _ hm hk), ih]
    · rw [if_neg hk, ih]
/-! Who waits comes to hold -/
theorem split_first {X Y H W : List S69} {a : S69} (e : X ++ a :: Y = H ++ W) (hX : ∀ x ∈ X, x.f3 = true) (ha : a.f3 = false) (hH : ∀ x ∈ H, x.f3 = true) (hW : ∀ x ∈ W, x.f3 = false) : X = H ∧ a :: Y = W := by
  induction X generalizing H with
  | nil =>
    cases H with
    | nil => exact ⟨rfl, e⟩
    | cons b t =>
      rw [List.nil_append, List.cons_append] at e
      injection e with e1 e2
      have := hH b List.mem_cons_self
      rw [← e1, ha] at this
      cases this
  | cons x X ih =>
    cases H with
    | nil =>
      rw [List.nil_append] at e
      have := hW x (by rw [← e]; simp)
      rw [hX x List.mem_cons_self] at this
      cases this
    | cons b t =>
      rw [List.cons_append, List.cons_append] at e
      injection e with e1 e2
      obtain ⟨h1, h2⟩ := ih e2 (fun y hy => hX y (List.mem_cons_of_mem _ hy)) (fun y hy => hH y (List.mem_cons_of_mem _ hy))
      exact ⟨by rw [e1, h1], h2⟩
end

section
theorem onK_me {key : ByteArray} {a : Int} {b c : Bool} : onK key [(⟨a, key, b, c⟩ : S69)] = [⟨a, key, b, c⟩] := onK_one rfl
theorem asL_all {key : ByteArray} {b : Bool} {l : List S63} : ∀ x ∈ asL key b l, x.f3 = b := fun x hx => (asL_mem hx).2.1
theorem mem_onK {key : ByteArray} {L : List S69} {a : S69} (ha : a ∈ L) (hk : a.f1 = key) : a ∈ onK key L := List.mem_filter.2 ⟨ha, by simpa using hk⟩
/-- The first who waits: where he stands. -/
theorem first_at {key : ByteArray} {b : S63} {h w : List S63} : ∀ {L : List S69}, onK key L = asL key true h ++ asL key false (b :: w) → ∃ L1 L2, L = L1 ++ ⟨b.f0, key, b.f1, false⟩ :: L2 ∧ onK key L1 = asL key true h ∧ onK key L2 = asL key false w
  | [], e => by
    have := congrArg List.length e
    unfold onK asL at this
    simp at this
  | a :: L, e => by
    by_cases ha : a.f1 = key
    · have e1 : onK key (a :: L) = a :: onK key L := by unfold onK; rw [List.filter_cons_of_pos (by simpa using ha)]
      rw [e1] at e
      cases h with
      | nil =>
        have e2 : asL key true [] ++ asL key false (b :: w) = ⟨b.f0, key, b.f1, false⟩ :: asL key false w := rfl
        rw [e2] at e
        injection e with e3 e4
        exact ⟨[], L, by rw [e3]; rfl, rfl, e4⟩
      | cons c h =>
        have e2 : asL key true (c :: h) ++ asL key false (b :: w) = ⟨c.f0, key, c.f1, true⟩ :: (asL key true h ++ asL key false (b :: w)) := rfl
        rw [e2] at e
        injection e with e3 e4
        obtain ⟨L1, L2, h1, h2, h3⟩ := first_at e4
        refine ⟨a :: L1, L2, by rw [h1]; rfl, ?_, h3⟩
        have e5 : onK key (a :: L1) = a :: onK key L1 := by unfold onK; rw [List.filter_cons_of_pos (by simpa using ha)]
        rw [e5, h2, e3]; rfl
    · have e1 : ∀ M, onK key (a :: M) = onK key M := fun M => by unfold onK; rw [List.filter_cons_of_neg (by simpa using ha)]
      rw [e1] at e
      obtain ⟨L1, L2, h1, h2, h3⟩ := first_at e
      exact ⟨a :: L1, L2, by rw [h1]; rfl, by rw [e1]; exact h2, h3⟩
theorem free_l1 {key : ByteArray} : ∀ (w h : List S63) (L : List S69) (acc : List Int) (k : Nat), onK key L = asL key true h ++ asL key false w → HOk h → L.length ≤ 1000 → acc.length + w.length ≤ 2000 → L.length + w.length + 5 ≤ k →
    ∃ L', valiseref18_Locks_Free.l1 k key acc L = some (L', acc ++ (grantF h w).2.2, 0) ∧ onK key L' = asL key true (grantF h w).1 ++ asL key false (grantF h w).2.1 ∧ (∀ k2, k2 ≠ key → onK k2 L' = onK k2 L) ∧ L'.length = L.length
  | w, h, L, acc, 0, _, _, _, _, h5 => by omega
  | [], h, L, acc, k + 1, hk, ho, hL, ha, h5 => by
    refine ⟨L, ?_, hk, fun _ _ => rfl, rfl⟩
    have h1 := first_none (key := key) hL L.length 0 k (by omega) (by simp at h5; omega) (fun a ha hak => by
      have := mem_onK (by simpa using ha) hak
      rw [hk, List.mem_append] at this
      rcases this with this | this
      · exact asL_all a this
      · unfold asL at this; simp at this)
    rw [valiseref18_Locks_Free.l1]
    unfold valiseref18_Locks_first.f
    rw [show ((0 : Int)) = ((0 : Nat) : Int) from rfl, h1]
    simp [grantF]
  | b :: w, h, L, acc, k + 1, hk, ho, hL, ha, h5 => by
    obtain ⟨L1, L2, e, hk1, hk2⟩ := first_at hk
    have hll : L.length = L1.length + 1 + L2.length := by rw [e]; simp; omega
    rw [List.length_cons] at h5 ha
    have h1 := first_some (key := key) e rfl rfl hL (fun a ha hak => by
      have := mem_onK ha hak
      rw [hk1] at this
      exact asL_all a this) L1.length 0 k (by omega) (by omega)
    have hr : rd_T69 L (L1.length : Int) = ⟨b.f0, key, b.f1, false⟩ := by
      rw [rd69 (by omega)]
      subst e
      simp
    have hset : L.set L1.length ⟨b.f0, key, b.f1, true⟩ = L1 ++ ⟨b.f0, key, b.f1, true⟩ :: L2 := by
      rw [e, List.set_append_right _ _ (Nat.le_refl _), Nat.sub_self]
      rfl
    have hr2 : rd_T69 (L1 ++ (⟨b.f0, key, b.f1, true⟩ : S69) :: L2) (L1.length : Int) = ⟨b.f0, key, b.f1, true⟩ := by
      rw [rd69 (by simp)]
      simp
    rw [valiseref18_Locks_Free.l1]
    unfold valiseref18_Locks_first.f
    rw [show ((0 : Int)) = ((0 : Nat) : Int) from rfl, h1]
    simp only [Option.bind_some]
    rw [if_neg (by omega), if_pos (by omega), if_pos (by omega), hr, may_rel hk ho hL (by omega), Int.toNat_natCast]
    simp only [Option.bind_some]
    rw [grantF]
    by_cases hm : mayF h b.f1 = true
    · rw [if_pos hm, if_pos hm, if_pos (by omega), hset, hr2]
      have e1 : ∀ k2, onK k2 (L1 ++ (⟨b.f0, key, b.f1, true⟩ : S69) :: L2) = onK k2 L1 ++ (onK k2 [(⟨b.f0, key, b.f1, true⟩ : S69)] ++ onK k2 L2) := fun k2 => by
        rw [← onK_append, ← onK_append]; rfl
      have e0 : ∀ k2, onK k2 L = onK k2 L1 ++ (onK k2 [(⟨b.f0, key, b.f1, false⟩ : S69)] ++ onK k2 L2) := fun k2 => by
        rw [← onK_append, ← onK_append, e]; rfl
      obtain ⟨L', g1, g2, g3, g4⟩ := free_l1 w (h ++ [b]) (L1 ++ (⟨b.f0, key, b.f1, true⟩ : S69) :: L2) (acc ++ [b.f0]) k (by
        rw [e1, hk1, hk2, onK_me, asL_append]
        simp [asL]) (ho.snoc hm) (by simp; omega) (by simp; omega) (by simp; omega)
      refine ⟨L', by rw [g1]; simp, g2, fun k2 hne => ?_, by rw [g4]; simp; omega⟩
      rw [g3 k2 hne, e1, e0, onK_no (fun e => hne e.symm), onK_no (fun e => hne e.symm)]
    · rw [if_neg hm, if_neg hm]
      exact ⟨L, by simp, hk, fun _ _ => rfl, rfl⟩
/-- Who frees is taken out. -/
def keepK (who : Int) (key : ByteArray) (a : S69) : Bool := !(decide (a.f0 = who) && decide (a.f1 = key) && a.f3)
theorem free_l0 {who : Int} {key : ByteArray} {L : List S69} (hL : L.length ≤ 1000) (k : Nat) : ∀ (n i : Nat) (acc : List S69), i + n = L.length → acc.length ≤ i → valiseref18_Locks_Free.l0 (k + n + 1) who key (i : Int) L acc = if (acc ++ (L.drop i).filter (keepK who key)).length = L.length then some (L, [], 9) else valiseref18_Locks_Free.l1 k key [] (acc ++ (L.drop i).filter (keepK who key))
  | 0, i, acc, h1, h2 => by
    rw [valiseref18_Locks_Free.l0, if_neg (by omega), List.drop_eq_nil_of_le (by omega), List.filter_nil, List.append_nil]
    by_cases h : acc.length = L.length
    · rw [if_pos h, if_pos (by omega)]
    · rw [if_neg h, if_neg (by omega)]
  | n + 1, i, acc, h1, h2 => by
    rw [show k + (n + 1) + 1 = (k + n + 1) + 1 by omega, valiseref18_Locks_Free.l0, if_pos (by omega), if_pos (by omega), ite_str, wnext (by omega), drop69 (by omega)]
    generalize rd_T69 L (i : Int) = x
    have ih := fun acc hl => free_l0 (who := who) (key := key) hL k n (i + 1) acc (by omega) hl
    have hadd : ((acc ++ [(⟨x.f0, x.f1, x.f2, x.f3⟩ : S69)]).length ≤ i + 1) := by simp; omega
    by_cases h0 : x.f0 = who
    · rw [if_pos h0]
      by_cases hx : x.f1 = key
      · rw [if_pos hx]
        by_cases h3 : x.f3 = true
        · rw [if_pos h3, ih _ (by omega), List.filter_cons_of_neg (by unfold keepK; simp [h0, hx, h3])]
        · rw [if_neg h3, if_pos (by omega), ih _ hadd, List.filter_cons_of_pos (by unfold keepK; simp [h0, hx, h3]), List.append_assoc]; rfl
      · rw [if_neg hx, if_pos (by omega), ih _ hadd, List.filter_cons_of_pos (by unfold keepK; simp [hx]), List.append_assoc]; rfl
    · rw [if_neg h0, if_pos (by omega), ih _ hadd, List.filter_cons_of_pos (by unfold keepK; simp [h0]), List.append_assoc]; rfl
theorem keep_h {who : Int} {key : ByteArray} {h : List S63} : (asL key true h).filter (keepK who key) = asL key true (notF h who) := by
  unfold asL notF
  rw [List.filter_map]
  congr 1
  apply List.filter_congr
  intro a _
  show (!(decide (a.f0 = who) && decide (key = key) && true)) = _
  by_cases h : a.f0 = who <;> simp [h]
theorem keep_w {who : Int} {key : ByteArray} {w : List S63} : (asL key false w).filter (keepK who key) = asL key false w :=
  List.filter_eq_self.2 fun a ha => by unfold keepK; rw [asL_all a ha]; simp
theorem onK_filter {key : ByteArray} {L : List S69} {p : S69 → Bool} : onK key (L.filter p) = (onK key L).filter p := by
  unfold onK
  rw [List.filter_filter, List.filter_filter]
  apply List.filter_congr
  intro a _
  exact Bool.and_comm _ _
theorem keep_ne {who : Int} {key k2 : ByteArray} (hne : k2 ≠ key) {L : List S69} : (onK k2 L).filter (keepK who key) = onK k2 L :=
  List.filter_eq_self.2 fun a ha => by
    unfold onK at ha
    have h1 : a.f1 = k2 := by simpa using (List.mem_filter.1 ha).2
    unfold keepK
    rw [h1]
    simp [hne]
theorem keep_len {who : Int} {key : ByteArray} {h w : List S63} {L : List S69} (hk : onK key L = asL key true h ++ asL key false w) : ((L.filter (keepK who key)).length = L.length) ↔ hasF h who = false := by
  rw [List.length_filter_eq_length_iff]
  constructor
  · intro hall
    cases hf : hasF h who with
    | false => rfl
    | true =>
      exfalso
      obtain ⟨b, hb, e⟩ := hasF_true hf
      have hm : (⟨b.f0, key, b.f1, true⟩ : S69) ∈ onK key L := by
        rw [hk, List.mem_append]
        exact .inl (List.mem_map.2 ⟨b, hb, rfl⟩)
      have := hall _ (List.mem_filter.1 hm).1
      unfold keepK at this
      simp [e] at this
  · intro hf a ha
    unfold keepK
    by_cases h1 : a.f1 = key
    · by_cases h3 : a.f3 = true
      · have hm := mem_onK ha h1
        rw [hk, List.mem_append] at hm
        rcases hm with hm | hm
        · obtain ⟨_, _, b, hb, e, _⟩ := asL_mem hm
          have := hasF_false hf b hb
          rw [e]
          simp [this]
        · rw [asL_all a hm] at h3; cases h3
      · simp [h3]
    · simp [h1]
theorem getP_none {key : ByteArray} {P : LP} (h : lookP key P = none) : getP key P = ([], []) := by unfold getP; rw [h]; rfl
theorem getP_some {key : ByteArray} {P : LP} {x : List S63 × List S63} (h : lookP key P = some x) : getP key P = x := by unfold getP; rw [h]; rfl
theorem ref_free {P : LP} {L : List S69} (hI : Inv P) (hR : RelL P L) (hL : L.length ≤ 500) (who : Int) (key : ByteArray) : ∃ L', valiseref18_Locks_Free.f 5000 L who key = some (L', (freeP who key P).2.1, (freeP who key P).2.2) ∧ RelL (freeP who key P).1 L' ∧ L'.length ≤ L.length := by
  have hk := hR key
  have l0 : okC who → valiseref18_Locks_Free.f 5000 L who key = if (L.filter (keepK who key)).length = L.length then some (L, [], 9) else valiseref18_Locks_Free.l1 (4998 - L.length) key [] (L.filter (keepK who key)) := fun hc => by
    have h0 := free_l0 (who := who) (key := key) (L := L) (by omega) (4998 - L.length) L.length 0 [] (by omega) (by simp)
    rw [show 4998 - L.length + L.length + 1 = 4999 by omega] at h0
    unfold okC at hc
    unfold valiseref18_Locks_Free.f
    rw [if_neg (by omega), decide_eq_false (by omega), valiseref18_Locks_Free.j0, if_neg (by decide)]
    rw [show ((0 : Int)) = ((0 : Nat) : Int) from rfl, h0]
    simp
  rcases free_cases hI who key with ⟨hc, e⟩ | ⟨hc, hn, e⟩ | ⟨hc, h, w, g, w2, hl, hf, hg, hgr, hcase⟩
  · rw [e]
    refine ⟨L, ?_, hR, Nat.le_refl _⟩
    unfold valiseref18_Locks_Free.f
    unfold okC at hc
    by_cases h0 : who < 0
    · rw [if_pos h0, valiseref18_Locks_Free.j0, if_pos rfl]
    · rw [if_neg h0, decide_eq_true (by omega), valiseref18_Locks_Free.j0, if_pos rfl]
  · rw [e]
    refine ⟨L, ?_, hR, Nat.le_refl _⟩
    have hz : (L.filter (keepK who key)).length = L.length := by
      rw [keep_len hk]
      rcases hn with hn | ⟨h, w, hn, hf⟩
      · rw [getP_none hn]; rfl
      · rw [getP_some hn]; exact hf
    rw [l0 hc, if_pos hz]
  · rw [getP_some hl] at hk
    have hr := hI.look hl
    have hz : ¬ (L.filter (keepK who key)).length = L.length := by rw [keep_len hk, hf]; simp
    have hk' : onK key (L.filter (keepK who key)) = asL key true (notF h who) ++ asL key false w := by rw [onK_filter, hk, List.filter_append, keep_h, keep_w]
    have hle := List.length_filter_le (keepK who key) L
    have hwl := hr.len
    obtain ⟨L', g1, g2, g3, g4⟩ := free_l1 w (notF h who) (L.filter (keepK who key)) [] (4998 - L.length) hk' (hr.2.2.filter who) (by omega) (by simp; omega) (by omega)
    rw [hgr] at g1 g2
    dsimp only at g1 g2
    have hne : ∀ k2, k2 ≠ key → onK k2 L' = onK k2 L := fun k2 hne => by rw [g3 k2 hne, onK_filter, keep_ne hne]
    have hrun : valiseref18_Locks_Free.f 5000 L who key = some (L', whoL g, 0) := by rw [l0 hc, if_neg hz, g1]; simp
    rcases hcase with ⟨hnil, hw, e⟩ | ⟨hr2, e⟩
    · have hgn := (List.append_eq_nil_iff.1 hnil)
      have hw2 : w2 = [] := by rw [hw, hgn.2] at hg; simpa using hg
      rw [e]
      refine ⟨L', by rw [hrun, hgn.2]; rfl, fun k2 => ?_, by omega⟩
      by_cases h2 : k2 = key
      · subst h2
        rw [g2, hnil, hw2, getP_none (look_del hI.1)]
      · rw [hne k2 h2, hR k2]
        unfold getP
        rw [look_del_ne h2]
    · rw [e]
      refine ⟨L', hrun, fun k2 => ?_, by omega⟩
      by_cases h2 : k2 = key
      · subst h2
        rw [g2, getP_some (look_set (by rw [hl]; simp))]
      · rw [hne k2 h2, hR k2]
        unfold getP
        rw [look_set_ne h2]
/-! Ask -/
def hitK (who : Int) (key : ByteArray) (a : S69) : Bool := decide (a.f0 = who) && decide (a.f1 = key)
def tailK (k : Nat) (who : Int) (key : ByteArray) (wr : Bool) (L : List S69) : Option (List S69 × Bool × Int) :=
  (valiseref18_Locks_Of.f k L key false).bind fun bt => if (bt.1.length : Int) = 0 then (valiseref18_Locks_may.f k L key wr).bind fun t => some (L ++ [⟨who, key, wr, t⟩], t, 0) else some (L ++ [⟨who, key, wr, false⟩], false, 0)
theorem ask_l0 {who : Int} {key : ByteArray} {wr : Bool} {L : List S69} (hL : L.length ≤ 1000) (k : Nat) : ∀ (n i : Nat), i + n = L.length → valiseref18_Locks_Ask.l0 (k + n + 1) who key wr (i : Int) L = if (L.drop i).any (hitK who key) = true then some (L, false, 18) else tailK k who key wr L
  | 0, i, h1 => by
    rw [valiseref18_Locks_Ask.l0, if_neg (by omega), List.drop_eq_nil_of_le (by omega), List.any_nil, if_neg (by decide)]
    unfold tailK
    congr 1
    funext bt
    by_cases h : (bt.1.length : Int) = 0
    · rw [if_pos h, if_pos h]
      congr 1
      funext t
      simp only [Option.bind_some, List.nil_append]
      rw [if_pos (by simp; omega), if_pos (by omega)]
    · rw [if_neg h, if_neg h]
      simp only [Option.bind_some, List.nil_append]
      rw [if_pos (by simp; omega), if_pos (by omega)]
  | n + 1, i, h1 => by
    rw [show k + (n + 1) + 1 = (k + n + 1) + 1 by omega, valiseref18_Locks_Ask.l0, if_pos (by omega), if_pos (by omega), ite_str, wnext (by omega), drop69 (by omega)]
    generalize rd_T69 L (i : Int) = x
    have ih := ask_l0 (who := who) (key := key) (wr := wr) hL k n (i + 1) (by omega)
    rw [List.any_cons]
    by_cases h0 : x.f0 = who
    · rw [if_pos h0]
      by_cases hx : x.f1 = key
      · rw [if_pos hx, if_pos (by unfold hitK; simp [h0, hx])]
      · rw [if_neg hx, ih]
        have : hitK who key x = false := by unfold hitK; simp [hx]
        rw [this, Bool.false_or]
    · rw [if_neg h0, ih]
      have : hitK who key x = false := by unfold hitK; simp [h0]
      rw [this, Bool.false_or]
theorem hit_rel {who : Int} {key : ByteArray} {h w : List S63} {L : List S69} (hk : onK key L = asL key true h ++ asL key false w) : L.any (hitK who key) = (hasF h who || hasF w who) := by
  have h1 : L.any (hitK who key) = (onK key L).any (fun a => decide (a.f0 = who)) := by
    unfold onK
    rw [List.any_filter]
    congr 1
    funext a
    exact Bool.and_comm _ _
  rw [h1, hk, List.any_append]
  unfold asL hasF
  rw [List.any_map, List.any_map]
  congr 1 <;> (congr 1; funext a; exact (Bool.beq_eq_decide_eq _ _).symm)
theorem rel_snoc {P P' : LP} {L : List S69} {key : ByteArray} {who : Int} {wr b : Bool} (hR : RelL P L) (hk : onK key L ++ [⟨who, key, wr, b⟩] = asL key true (getP key P').1 ++ asL key false (getP key P').2) (hne : ∀ k2, k2 ≠ key → getP k2 P' = getP k2 P) : RelL P' (L ++ [⟨who, key, wr, b⟩]) := fun k2 => by
  by_cases h2 : k2 = key
  · subst h2
    rw [onK_append, onK_me, hk]
  · rw [onK_append, onK_no (fun e => h2 e.symm), List.append_nil, hR k2, hne k2 h2]
theorem ref_ask {P : LP} {L : List S69} (hI : Inv P) (hR : RelL P L) (hL : L.length ≤ 500) (who : Int) (key : ByteArray) (wr : Bool) : ∃ L', valiseref18_Locks_Ask.f 5000 L who key wr = some (L', (askP who key wr P).2.1, (askP who key wr P).2.2) ∧ RelL (askP who key wr P).1 L' ∧ L'.length ≤ L.length + 1 := by
  have hk := hR key
  have l0 : okC who → valiseref18_Locks_Ask.f 5000 L who key wr = if L.any (hitK who key) = true then some (L, false, 18) else tailK (4998 - L.length) who key wr L := fun hc => by
    have h0 := ask_l0 (who := who) (key := key) (wr := wr) (L := L) (by omega) (4998 - L.length) L.length 0 (by omega)
    rw [show 4998 - L.length + L.length + 1 = 4999 by omega] at h0
    unfold okC at hc
    unfold valiseref18_Locks_Ask.f
    rw [if_neg (by omega), decide_eq_false (by omega), valiseref18_Locks_Ask.j0, if_neg (by decide)]
    rw [show ((0 : Int)) = ((0 : Nat) : Int) from rfl, h0]
    simp
  have tl : ∀ h w, HOk h → onK key L = asL key true h ++ asL key false w → tailK (4998 - L.length) who key wr L = if w = [] then some (L ++ [⟨who, key, wr, mayF h wr⟩], mayF h wr, 0) else some (L ++ [⟨who, key, wr, false⟩], false, 0) := fun h w ho hk => by
    unfold tailK
    rw [of_rel (b := false) hk (by omega) (by omega), may_rel hk ho (by omega) (by omega)]
    simp only [Option.bind_some]
    have hw : (whoL w).length = w.length := by unfold whoL; rw [List.length_map]
    rw [if_neg (by decide : ¬ (false = true)), hw]
    cases w with
    | nil => rfl
    | cons a t => rw [if_neg (by simp; omega), if_neg (by simp)]
  rcases ask_cases hI who key wr with ⟨hc, e⟩ | ⟨hc, hn, e⟩ | ⟨hc, h, w, hl, hr, ⟨hf, e⟩ | ⟨hf1, hf2, hw, hm, hr2, e⟩ | ⟨hf1, hf2, hnot, hr2, e⟩⟩
  · rw [e]
    refine ⟨L, ?_, hR, by omega⟩
    unfold valiseref18_Locks_Ask.f
    unfold okC at hc
    by_cases h0 : who < 0
    · rw [if_pos h0, valiseref18_Locks_Ask.j0, if_pos rfl]
    · rw [if_neg h0, decide_eq_true (by omega), valiseref18_Locks_Ask.j0, if_pos rfl]
  · rw [e]
    rw [getP_none hn] at hk
    refine ⟨_, ?_, rel_snoc (key := key) (who := who) (wr := wr) (b := true) hR ?_ ?_, by simp⟩
    · rw [l0 hc, hit_rel hk, if_neg (by unfold hasF; simp), tl [] [] (.inl (by simp)) hk, if_pos rfl]
      rfl
    · rw [hk]
      have : getP key (P ++ [(key, [⟨who, wr⟩], [])]) = ([⟨who, wr⟩], []) := getP_some (by rw [look_add hn, if_pos rfl])
      rw [this]
      rfl
    · intro k2 hne
      unfold getP
      rw [look_add hn, if_neg hne]
  · rw [e]
    rw [getP_some hl] at hk
    refine ⟨L, ?_, hR, by omega⟩
    rw [l0 hc, hit_rel hk, if_pos (by rcases hf with hf | hf <;> simp [hf])]
  · rw [e]
    rw [getP_some hl] at hk
    dsimp only at hk
    refine ⟨_, ?_, rel_snoc (key := key) (who := who) (wr := wr) (b := true) hR ?_ ?_, by simp⟩
    · rw [l0 hc, hit_rel hk, if_neg (by simp [hf1, hf2]), tl h w hr.2.2 hk, if_pos hw, hm]
    · rw [hk]
      have : getP key (setP key (h ++ [⟨who, wr⟩], w) P) = (h ++ [⟨who, wr⟩], w) := getP_some (look_set (by rw [hl]; simp))
      rw [this, hw]
      simp [asL]
    · intro k2 hne
      unfold getP
      rw [look_set_ne hne]
  · rw [e]
    rw [getP_some hl] at hk
    dsimp only at hk
    refine ⟨_, ?_, rel_snoc (key := key) (who := who) (wr := wr) (b := false) hR ?_ ?_, by simp⟩
    · rw [l0 hc, hit_rel hk, if_neg (by simp [hf1, hf2]), tl h w hr.2.2 hk]
      by_cases hw : w = []
      · have hm : mayF h wr = false := Bool.eq_false_iff.mpr fun hm => hnot ⟨hw, hm⟩
        rw [if_pos hw, hm]
      · rw [if_neg hw]
    · rw [hk]
      have : getP key (setP key (h, w ++ [⟨who, wr⟩]) P) = (h, w ++ [⟨who, wr⟩]) := getP_some (look_set (by rw [hl]; simp))
      rw [this]
      simp [asL]
    · intro k2 hne
      unfold getP
      rw [look_set_ne hne]
/-! Who holds, who waits -/
theorem ref_of {P : LP} {L : List S69} (hI : Inv P) (hR : RelL P L) (hL : L.length ≤ 500) (key : ByteArray) : valiseref18_Locks_Of.f 5000 L key true = some ((holdsP key P).1, (holdsP key P).2) ∧ ∃ b, valiseref18_Locks_Of.f 5000 L key false = some (waitsP key P, b) := by
  have hk := hR key
  have h1 := of_rel (b := true) hk (by omega) (k := 5000) (by omega)
  have h2 := of_rel (b := false) hk (by omega) (k := 5000) (by omega)
  rw [h1, h2]
  cases hl : lookP key P with
  | none =>
    rw [getP_none hl, holds_no hl, waits_no hl]
    exact ⟨rfl, _, rfl⟩
  | some x =>
    obtain ⟨h, w⟩ := x
    rw [getP_some hl, holds_of hl, waits_of hl]
    refine ⟨?_, _, rfl⟩
    dsimp only
    rw [if_pos rfl, any_first (hI.look hl).2.2]
theorem same_l0 {l : List Int} (hl : l.length ≤ 1000) : ∀ (n i k : Nat), i + n = l.length → n < k → valiseref04_Same.l0 k l l (i : Int) = some true
  | 0, i, 0, _, h => by omega
  | 0, i, k + 1, h1, h2 => by rw [valiseref04_Same.l0, if_neg (by omega)]
  | n + 1, i, 0, _, h => by omega
  | n + 1, i, k + 1, h1, h2 => by
    rw [valiseref04_Same.l0, if_pos (by omega), if_pos (by omega), if_pos (by omega), if_pos rfl, wnext (by omega), same_l0 hl n (i + 1) k (by omega) (by omega)]
theorem same_self {l : List Int} (hl : l.length ≤ 1000) : valiseref04_Same.f 5000 l l = some true := by
  unfold valiseref04_Same.f
  rw [if_pos rfl]
  exact same_l0 hl l.length 0 5000 (by omega) (by omega)
end
end Go.Proofs.Ytdhabfjfpbdjfaa.Pr
