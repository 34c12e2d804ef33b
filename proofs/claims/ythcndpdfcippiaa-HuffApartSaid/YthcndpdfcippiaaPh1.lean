import Derived.Test.YthcndpdfcippiaaPr0
import Derived.Test.YthcndpdfcippiaaPr2
import Derived.Test.YthcndpdfcippiaaPr3
import Derived.Test.YthcndpdfcippiaaPr4
import Derived.Test.YthcndpdfcippiaaPr5
import Derived.Test.YthcndpdfcippiaaHu6
namespace Go.Proofs.Ythcndpdfcippiaa.Pr
open Go.RowKit Go.Proofs.YthcndpdfcippiaaW.PrintWords Go.Proofs.YthcndpdfcippiaaW.PrintLast Go.Proofs.YthcndpdfcippiaaW.PrintMore
set_option linter.unusedVariables false
set_option linter.unusedSimpArgs false
set_option maxRecDepth 100000
/-! ### Lengths: how many of each there are, and what they take -/
def OKL (l : List Int) : Prop := 1 ≤ l.length ∧ l.length ≤ 288 ∧ ∀ x ∈ l, 0 ≤ x ∧ x ≤ 15
theorem rdN (l : List Int) (i : Nat) : rd l (i : Int) = l[i]?.getD 0 := by unfold rd; rw [Int.toNat_natCast, List.getD_eq_getElem?_getD]
theorem rd_set (l : List Int) (i j : Nat) (x : Int) (hi : i < l.length) : rd (l.set i x) (j : Int) = if i = j then x else rd l (j : Int) := by
  rw [rdN, rdN, List.getElem?_set]
  by_cases h : i = j
  · subst h
    rw [if_pos rfl, if_pos rfl, if_pos hi]
    rfl
  · rw [if_neg h, if_neg h]
theorem wrap64_id {x : Int} (h0 : -9223372036854775808 ≤ x) (h1 : x ≤ 9223372036854775807) : wrap64 x = x := by unfold wrap64; omega
theorem take_succ_getD (l : List Int) {k : Nat} (hk : k < l.length) : l.take (k + 1) = l.take k ++ [l[k]?.getD 0] := by
  rw [List.take_add_one, List.getElem?_eq_getElem hk]; rfl
theorem mem_of_getD {l : List Int} {k : Nat} (hk : k < l.length) : l[k]?.getD 0 ∈ l := by rw [List.getElem?_eq_getElem hk]; exact List.getElem_mem hk
theorem count_le (l : List Int) (k : Nat) (x : Int) : (l.take k).count x ≤ k := Nat.le_trans List.count_le_length (by rw [List.length_take]; omega)
theorem cnt_rd (l : List Int) (h : OKL l) : ∀ (k : Nat), k ≤ l.length → ∀ j : Nat, j ≤ 15 → rd (Hu.cntL (Hu.usedL l k)) (j : Int) = if j = 0 then 0 else (((l.take k).count (j : Int) : Nat) : Int)
  | 0, _, j, hj => by
    rw [Hu.usedL_zero, rdN]
    unfold Hu.cntL
    rw [List.foldl_nil, List.getElem?_replicate, if_pos (by omega), List.take_zero, List.count_nil]
    split <;> rfl
  | k + 1, hk, j, hj => by
    have ih := cnt_rd l h k (by omega)
    rw [Hu.usedL_succ, take_succ_getD l (by omega), List.count_append]
    obtain ⟨x, hx⟩ : ∃ x, l[k]?.getD 0 = x := ⟨_, rfl⟩
    have hm := h.2.2 _ (mem_of_getD (show k < l.length by omega))
    rw [hx] at hm ⊢
    by_cases h0 : x = 0
    · subst h0
      rw [if_pos rfl, ih j hj]
      by_cases hj0 : j = 0
      · rw [if_pos hj0, if_pos hj0]
      · rw [if_neg hj0, if_neg hj0, List.count_singleton, beq_eq_false_iff_ne.mpr (show (0 : Int) ≠ (j : Int) by omega)]
        rfl
    · rw [if_neg h0, Hu.cntL_snoc]
      unfold Hu.cntStep
      obtain ⟨y, rfl⟩ : ∃ y : Nat, x = (y : Int) := ⟨x.toNat, by omega⟩
      have e1 := ih y (by omega)
      rw [if_neg (by omega)] at e1
      rw [Int.toNat_natCast, rd_set _ _ _ _ (by rw [Hu.cntL_len]; omega), e1, ih j hj, List.count_singleton]
      have hc := count_le l k (y : Int)
      by_cases hyj : y = j
      · subst hyj
        rw [if_pos rfl, if_neg (show ¬ y = 0 by omega), if_pos (beq_iff_eq.mpr rfl), wrap64_id (by omega) (by have := h.2.1; omega)]
        simp
      · rw [if_neg hyj, if_neg (c := ((y : Int) == (j : Int)) = true) (by simp; omega)]
        simp
theorem counted_ok (l : List Int) : (Hu.countedS l).2 = true ↔ OKL l := by
  unfold Hu.countedS OKL
  by_cases h1 : l.length < 1 ∨ 288 < l.length
  · rw [if_pos h1]
    exact ⟨fun h => (by cases h), fun h => by omega⟩
  · rw [if_neg h1]
    by_cases h2 : (Hu.usedL l l.length).all (fun x => decide (Hu.Lok x.2)) = true
    · rw [if_pos h2]
      refine ⟨fun _ => ⟨by omega, by omega, fun x hx => ?_⟩, fun _ => rfl⟩
      obtain ⟨i, hi, rfl⟩ := List.getElem_of_mem hx
      by_cases h0 : l[i] = 0
      · omega
      · have hm : (i, l[i]) ∈ Hu.usedL l l.length := by
          unfold Hu.usedL
          rw [List.mem_filter, List.mem_map]
          exact ⟨⟨i, List.mem_range.2 hi, by rw [List.getElem?_eq_getElem hi]; rfl⟩, decide_eq_true h0⟩
        exact of_decide_eq_true (List.all_eq_true.1 h2 _ hm)
    · rw [if_neg h2]
      refine ⟨fun h => (by cases h), fun h => absurd ?_ h2⟩
      refine List.all_eq_true.2 fun x hx => decide_eq_true ?_
      obtain ⟨a, b, c⟩ := Hu.usedL_mem hx
      rw [b]
      exact h.2.2 _ (mem_of_getD a)
theorem counted_rd (l : List Int) (h : OKL l) (j : Nat) (hj : j ≤ 15) : rd (Hu.countedS l).1 (j : Int) = if j = 0 then 0 else ((l.count (j : Int) : Nat) : Int) := by
  have hc : (Hu.countedS l).1 = Hu.cntL (Hu.usedL l l.length) := by
    have := (counted_ok l).2 h
    unfold Hu.countedS at this ⊢
    by_cases h1 : l.length < 1 ∨ 288 < l.length
    · rw [if_pos h1] at this; cases this
    · rw [if_neg h1] at this ⊢
      by_cases h2 : (Hu.usedL l l.length).all (fun x => decide (Hu.Lok x.2)) = true
      · rw [if_pos h2]
      · rw [if_neg h2] at this; cases this
  have := cnt_rd l h l.length (Nat.le_refl _) j hj
  rw [List.take_length] at this
  rw [hc, this]
/-- What the last d lengths take, in parts. -/
def takeT (l : List Int) : Nat → Nat
  | 0 => 0
  | d + 1 => l.count ((15 - d : Nat) : Int) * 2 ^ d + takeT l d
theorem room_sign (l : List Int) (h : OKL l) : ∀ (d : Nat), d ≤ 15 → ∀ left : Int, 0 ≤ left → left ≤ 2 ^ (15 - d) →
    (Hu.roomF (Hu.countedS l).1 d left < 0 ↔ left * 2 ^ d < (takeT l d : Int)) ∧ (0 < Hu.roomF (Hu.countedS l).1 d left ↔ (takeT l d : Int) < left * 2 ^ d)
  | 0, _, left, h0, h1 => by
    unfold Hu.roomF takeT
    simp
  | d + 1, hd, left, h0, h1 => by
    have hp : (2 : Int) ^ (15 - (d + 1)) ≤ 2 ^ 15 := by
      have : (2 : Nat) ^ (15 - (d + 1)) ≤ 2 ^ 15 := Nat.pow_le_pow_right (by omega) (by omega)
      exact_mod_cast this
    have hp2 : (2 : Int) ^ (15 - d) = 2 * 2 ^ (15 - (d + 1)) := by
      rw [show 15 - d = 15 - (d + 1) + 1 by omega, Int.pow_succ, Int.mul_comm]
    have hc := counted_rd l h (15 - d) (by omega)
    rw [if_neg (by omega)] at hc
    have hcl : l.count ((15 - d : Nat) : Int) ≤ 288 := Nat.le_trans List.count_le_length h.2.1
    unfold Hu.roomF takeT
    rw [hc]
    obtain ⟨c, hcc⟩ : ∃ c : Nat, l.count ((15 - d : Nat) : Int) = c := ⟨_, rfl⟩
    rw [hcc] at hcl ⊢
    rw [wrap64_id (x := 2 * left) (by omega) (by omega), wrap64_id (by omega) (by omega)]
    have hpd : (0 : Int) < 2 ^ d := Int.pow_pos (by omega)
    have e : left * 2 ^ (d + 1) = 2 * left * 2 ^ d := by rw [Int.pow_succ, Int.mul_comm 2 left, Int.mul_assoc, Int.mul_comm (2 ^ d) 2]
    have hcast : ((c * 2 ^ d + takeT l d : Nat) : Int) = (c : Int) * 2 ^ d + (takeT l d : Int) := by push_cast; rfl
    rw [hcast, e]
    have ed : (2 * left - (c : Int)) * 2 ^ d = 2 * left * 2 ^ d - (c : Int) * 2 ^ d := Int.sub_mul _ _ _
    by_cases hn : 2 * left - (c : Int) < 0
    · rw [if_pos hn]
      have hlt : (2 * left - (c : Int)) * 2 ^ d < 0 := Int.mul_neg_of_neg_of_pos hn hpd
      refine ⟨⟨fun _ => by omega, fun _ => hn⟩, ⟨fun h => by omega, fun h => by omega⟩⟩
    · rw [if_neg hn]
      obtain ⟨i1, i2⟩ := room_sign l h d (by omega) (2 * left - (c : Int)) (by omega) (by omega)
      rw [ed] at i1 i2
      exact ⟨i1.trans ⟨fun h => by omega, fun h => by omega⟩, i2.trans ⟨fun h => by omega, fun h => by omega⟩⟩
/-- What huff.Check tells. -/
theorem checkS_eq (l : List Int) (h : OKL l) : Hu.checkS l = if takeT l 15 > 32768 then 11 else if takeT l 15 < 32768 then 12 else 0 := by
  obtain ⟨i1, i2⟩ := room_sign l h 15 (by omega) 1 (by omega) (by omega)
  unfold Hu.checkS
  rw [if_neg (by rw [(counted_ok l).2 h]; decide)]
  change (Hu.roomS (Hu.countedS l).1 < 0 ↔ _) at i1
  change (0 < Hu.roomS (Hu.countedS l).1 ↔ _) at i2
  have e : (1 : Int) * 2 ^ 15 = 32768 := by decide
  rw [e] at i1 i2
  by_cases h1 : takeT l 15 > 32768
  · rw [if_pos h1, if_pos (i1.2 (by omega))]
  · rw [if_neg h1, if_neg (fun hh => by have := i1.1 hh; omega)]
    by_cases h2 : takeT l 15 < 32768
    · rw [if_pos h2, if_pos (i2.2 (by omega))]
    · rw [if_neg h2, if_neg (fun hh => by have := i2.1 hh; omega)]
theorem checkS_bad (l : List Int) (h : ¬ OKL l) : Hu.checkS l = 2 := by
  unfold Hu.checkS
  rw [if_pos]
  cases hh : (Hu.countedS l).2 with
  | false => rfl
  | true => exact absurd ((counted_ok l).1 hh) h
/-! ### The document's check -/
def tk1 (x : Int) : Nat := if 0 < x then 2 ^ (15 - x.toNat) else 0
def takeS (l : List Int) : Nat := (l.map tk1).sum
theorem tk1_le (x : Int) : tk1 x ≤ 32768 := by
  unfold tk1
  split
  · exact Nat.pow_le_pow_right (n := 2) (by omega) (show 15 - x.toNat ≤ 15 by omega)
  · omega
theorem takeS_le (l : List Int) : takeS l ≤ l.length * 32768 := by
  induction l with
  | nil => simp [takeS]
  | cons x l ih =>
    have := tk1_le x
    unfold takeS at ih ⊢
    rw [List.map_cons, List.sum_cons, List.length_cons]
    omega
theorem drop_getD (l : List Int) {i : Nat} (hi : i < l.length) : l.drop i = rd l (i : Int) :: l.drop (i + 1) := by
  rw [List.drop_eq_getElem_cons hi, rdN, List.getElem?_eq_getElem hi]; rfl
theorem shl1 (m : Nat) (hm : m ≤ 15) : shl .i64 1 (m : Int) = ((2 ^ m : Nat) : Int) := by
  have : m = 0 ∨ m = 1 ∨ m = 2 ∨ m = 3 ∨ m = 4 ∨ m = 5 ∨ m = 6 ∨ m = 7 ∨ m = 8 ∨ m = 9 ∨ m = 10 ∨ m = 11 ∨ m = 12 ∨ m = 13 ∨ m = 14 ∨ m = 15 := by omega
  rcases this with rfl | rfl | rfl | rfl | rfl | rfl | rfl | rfl | rfl | rfl | rfl | rfl | rfl | rfl | rfl | rfl <;> decide +kernel
theorem takes_l0 (l : List Int) (h : OKL l) : ∀ (d k i : Nat) (n : Nat), l.length - i ≤ d → d < k → i ≤ l.length → n ≤ i * 32768 → valiseref04_Takes.l0 k l (n : Int) (i : Int) = some ((n + takeS (l.drop i) : Nat) : Int)
  | d, 0, i, n, _, hk, _, _ => by omega
  | d, k + 1, i, n, hd, hk, hi, hn => by
    rw [valiseref04_Takes.l0]
    by_cases hlt : i < l.length
    · rw [if_pos (by omega), if_pos (by omega)]
      obtain ⟨d, rfl⟩ : ∃ d', d = d' + 1 := ⟨d - 1, by omega⟩
      have hm := h.2.2 _ (mem_of_getD hlt)
      rw [← rdN] at hm
      have hl := h.2.1
      rw [drop_getD l hlt]
      have e2 : takeS (rd l (i : Int) :: l.drop (i + 1)) = tk1 (rd l (i : Int)) + takeS (l.drop (i + 1)) := by unfold takeS; rw [List.map_cons, List.sum_cons]
      rw [e2]
      obtain ⟨x, hx⟩ : ∃ x, rd l (i : Int) = x := ⟨_, rfl⟩
      rw [hx] at hm ⊢
      rw [wrap64_id (x := (i : Int) + 1) (by omega) (by omega), show (i : Int) + 1 = ((i + 1 : Nat) : Int) by omega]
      have ht := tk1_le x
      by_cases h0 : x > 0
      · rw [if_pos h0, wrap64_id (x := 15 - x) (by omega) (by omega), if_pos (by omega)]
        have ex : 15 - x = ((15 - x.toNat : Nat) : Int) := by omega
        have et : tk1 x = 2 ^ (15 - x.toNat) := by unfold tk1; rw [if_pos h0]
        rw [ex, shl1 _ (by omega), ← et, wrap64_id (by omega) (by omega), show (n : Int) + (tk1 x : Int) = ((n + tk1 x : Nat) : Int) by omega, takes_l0 l h d k (i + 1) (n + tk1 x) (by omega) (by omega) (by omega) (by omega)]
        congr 2
        omega
      · have hn2 : n ≤ (i + 1) * 32768 := Nat.le_trans hn (Nat.mul_le_mul_right _ (Nat.le_succ i))
        rw [if_neg h0, takes_l0 l h d k (i + 1) n (by omega) (by omega) (by omega) hn2]
        have et : tk1 x = 0 := by unfold tk1; rw [if_neg h0]
        rw [et, Nat.zero_add]
    · rw [if_neg (by omega), List.drop_of_length_le (by omega)]
      simp [takeS]
theorem takes_eq (l : List Int) (h : OKL l) {k : Nat} (hk : l.length < k) : valiseref04_Takes.f k l = some ((takeS l : Nat) : Int) := by
  unfold valiseref04_Takes.f
  have := takes_l0 l h l.length k 0 0 (by omega) hk (by omega) (by omega)
  rw [List.drop_zero, Nat.zero_add] at this
  exact this
theorem lengths_l0 (l : List Int) (hl : l.length ≤ 288) : ∀ (d k i : Nat), l.length - i ≤ d → d < k → i ≤ l.length → valiseref04_Lengths.l0 k l (i : Int) = some (decide (∀ x ∈ l.drop i, 0 ≤ x ∧ x ≤ 15))
  | d, 0, i, _, hk, _ => by omega
  | d, k + 1, i, hd, hk, hi => by
    rw [valiseref04_Lengths.l0]
    by_cases hlt : i < l.length
    · rw [if_pos (by omega), if_pos (by omega), drop_getD l hlt]
      obtain ⟨d, rfl⟩ : ∃ d', d = d' + 1 := ⟨d - 1, by omega⟩
      rw [wrap64_id (x := (i : Int) + 1) (by omega) (by omega), show (i : Int) + 1 = ((i + 1 : Nat) : Int) by omega, lengths_l0 l hl d k (i + 1) (by omega) (by omega) (by omega)]
      by_cases h0 : rd l (i : Int) < 0
      · rw [if_pos h0]
        congr 1
        exact (decide_eq_false (fun h => by have := h _ (List.mem_cons_self ..); omega)).symm
      · rw [if_neg h0]
        by_cases h1 : rd l (i : Int) > 15
        · rw [if_pos h1]
          congr 1
          exact (decide_eq_false (fun h => by have := h _ (List.mem_cons_self ..); omega)).symm
        · rw [if_neg h1]
          congr 1
          rw [decide_eq_decide]
          exact ⟨fun h x hx => (List.mem_cons.1 hx).elim (fun e => by subst e; omega) (h x), fun h x hx => h x (List.mem_cons_of_mem _ hx)⟩
    · rw [if_neg (by omega), List.drop_of_length_le (by omega)]
      simp
instance (l : List Int) : Decidable (OKL l) := by unfold OKL; infer_instance
theorem lengths_eq (l : List Int) {k : Nat} (hk : l.length + 2 < k) : valiseref04_Lengths.f k l = some (decide (OKL l)) := by
  obtain ⟨k, rfl⟩ : ∃ k', k = k' + 1 := ⟨k - 1, by omega⟩
  unfold valiseref04_Lengths.f
  by_cases h0 : (l.length : Int) = 0
  · rw [if_pos h0, valiseref04_Lengths.j0, if_pos rfl]
    congr 1
    exact (decide_eq_false (fun h => by have := h.1; omega)).symm
  · rw [if_neg h0, valiseref04_Lengths.j0]
    by_cases h1 : (l.length : Int) > 288
    · rw [if_pos (decide_eq_true h1)]
      congr 1
      exact (decide_eq_false (fun h => by have := h.2.1; omega)).symm
    · rw [if_neg (by rw [decide_eq_true_eq]; exact h1)]
      have := lengths_l0 l (by omega) l.length k 0 (by omega) (by omega) (by omega)
      rw [List.drop_zero] at this
      rw [show (0 : Int) = ((0 : Nat) : Int) from rfl, this]
      congr 1
      rw [decide_eq_decide]
      exact ⟨fun h => ⟨by omega, by omega, h⟩, fun h => h.2.2⟩
theorem takeT_nil : ∀ d, takeT [] d = 0
  | 0 => rfl
  | d + 1 => by unfold takeT; rw [takeT_nil d]; simp
theorem takeT_cons (x : Int) (l : List Int) (hx : 0 ≤ x ∧ x ≤ 15) : ∀ d, d ≤ 15 → takeT (x :: l) d = takeT l d + if 15 - d < x.toNat then tk1 x else 0
  | 0, _ => by
    unfold takeT
    rw [if_neg (by omega)]
  | d + 1, hd => by
    unfold takeT
    rw [takeT_cons x l hx d (by omega), List.count_cons, Nat.add_mul]
    unfold tk1
    by_cases he : x = ((15 - d : Nat) : Int)
    · rw [if_pos (beq_iff_eq.mpr he), if_neg (show ¬ 15 - d < x.toNat by omega), if_pos (show 15 - (d + 1) < x.toNat by omega), if_pos (show 0 < x by omega), show 15 - x.toNat = d by omega]
      omega
    · rw [if_neg (c := (x == ((15 - d : Nat) : Int)) = true) (by rw [beq_iff_eq]; exact he)]
      by_cases hl : 15 - d < x.toNat
      · rw [if_pos hl, if_pos (show 15 - (d + 1) < x.toNat by omega)]
        omega
      · rw [if_neg hl, if_neg (show ¬ 15 - (d + 1) < x.toNat by omega)]
        omega
theorem takeT_eq : ∀ (l : List Int), (∀ x ∈ l, 0 ≤ x ∧ x ≤ 15) → takeT l 15 = takeS l
  | [], _ => by rw [takeT_nil]; rfl
  | x :: l, h => by
    have hx := h x (List.mem_cons_self ..)
    rw [takeT_cons x l hx 15 (by omega), takeT_eq l (fun y hy => h y (List.mem_cons_of_mem _ hy))]
    unfold takeS
    rw [List.map_cons, List.sum_cons]
    by_cases h0 : 0 < x.toNat
    · rw [if_pos (by omega)]
      omega
    · rw [if_neg (by omega)]
      have : tk1 x = 0 := by unfold tk1; rw [if_neg (by omega)]
      omega
theorem check4_eq (l : List Int) {k : Nat} (hk : l.length + 2 < k) : valiseref04_Check.f k l = some (Hu.checkS l) := by
  unfold valiseref04_Check.f
  rw [lengths_eq l hk, Option.bind_some]
  by_cases h : OKL l
  · rw [if_pos (decide_eq_true h), takes_eq l h (by omega), Option.bind_some, checkS_eq l h, takeT_eq l h.2.2]
    by_cases h1 : takeS l > 32768
    · rw [if_pos h1, if_pos (by omega)]
    · rw [if_neg h1, if_neg (by omega)]
      by_cases h2 : takeS l < 32768
      · rw [if_pos h2, if_pos (by omega)]
      · rw [if_neg h2, if_neg (by omega)]
  · rw [if_neg (by rw [decide_eq_true_eq]; exact h), checkS_bad l h]
/-! ### The codes -/
/-- From some number of rounds on. -/
def Ev {α : Type} (g : Nat → Option α) (r : α) : Prop := ∃ k, ∀ k', k ≤ k' → g k' = some r
theorem Ev.succ {α : Type} {g g' : Nat → Option α} {r : α} (hs : ∀ k, g (k + 1) = g' k) (h : Ev g' r) : Ev g r := by
  obtain ⟨k, h⟩ := h
  refine ⟨k + 1, fun k' hk => ?_⟩
  obtain ⟨k', rfl⟩ : ∃ m, k' = m + 1 := ⟨k' - 1, by omega⟩
  rw [hs]
  exact h k' (by omega)
theorem Ev.done {α : Type} {g : Nat → Option α} {r : α} (hs : ∀ k, g (k + 1) = some r) : Ev g r := ⟨1, fun k' hk => by obtain ⟨k', rfl⟩ : ∃ m, k' = m + 1 := ⟨k' - 1, by omega⟩; exact hs k'⟩
/-- The first code of a length. -/
def firstC (l : List Int) : Nat → Nat
  | 0 => 0
  | j + 1 => (firstC l j + if j = 0 then 0 else l.count (j : Int)) * 2
theorem firstC_le (l : List Int) (hl : l.length ≤ 288) : ∀ j, firstC l j + 576 ≤ 576 * 2 ^ j
  | 0 => by simp [firstC]
  | j + 1 => by
    have ih := firstC_le l hl j
    have hc : l.count (j : Int) ≤ 288 := Nat.le_trans List.count_le_length hl
    rw [show firstC l (j + 1) = (firstC l j + if j = 0 then 0 else l.count (j : Int)) * 2 from rfl, Nat.pow_succ]
    split <;> omega
theorem firstC_lt (l : List Int) (hl : l.length ≤ 288) {j : Nat} (hj : j ≤ 16) : firstC l j ≤ 37748736 := by
  have h := firstC_le l hl j
  have : (2 : Nat) ^ j ≤ 2 ^ 16 := Nat.pow_le_pow_right (by omega) hj
  omega
/-- A symbol's code. -/
def codeN (l : List Int) (i : Nat) : Nat := if l[i]?.getD 0 = 0 then 0 else firstC l (l[i]?.getD 0).toNat + (l.take i).count (l[i]?.getD 0)
def codesV (l : List Int) : List Int := (List.range l.length).map fun i => ((codeN l i : Nat) : Int)
theorem codesV_len (l : List Int) : (codesV l).length = l.length := by unfold codesV; rw [List.length_map, List.length_range]
theorem codesV_rd (l : List Int) {i : Nat} (hi : i < l.length) : rd (codesV l) (i : Int) = ((codeN l i : Nat) : Int) := by
  rw [rdN]; unfold codesV
  rw [List.getElem?_map, List.getElem?_range hi]; rfl
theorem next_rd (l : List Int) (h : OKL l) : ∀ m, m ≤ 15 → ∀ j, j ≤ m → rd (Hu.nextL (Hu.countedS l).1 m) (j : Int) = ((firstC l j : Nat) : Int)
  | 0, _, j, hj => by
    obtain rfl : j = 0 := by omega
    rfl
  | m + 1, hm, j, hj => by
    have ih := next_rd l h m (by omega)
    unfold Hu.nextL
    rw [rd_set _ _ _ _ (by rw [Hu.nextL_len]; omega)]
    by_cases he : m + 1 = j
    · subst he
      rw [if_pos rfl, ih m (Nat.le_refl _), counted_rd l h m (by omega)]
      have hb := firstC_lt l h.2.1 (show m ≤ 16 by omega)
      have hc : l.count (m : Int) ≤ 288 := Nat.le_trans List.count_le_length h.2.1
      rw [show firstC l (m + 1) = (firstC l m + if m = 0 then 0 else l.count (m : Int)) * 2 from rfl]
      by_cases h0 : m = 0
      · rw [if_pos h0, if_pos h0, wrap64_id (x := _ + 0) (by omega) (by omega), wrap64_id (by omega) (by omega)]
        omega
      · rw [if_neg h0, if_neg h0, wrap64_id (x := _ + _) (by omega) (by omega), wrap64_id (by omega) (by omega)]
        omega
    · rw [if_neg he]
      exact ih j (by omega)
theorem codes_rd (l : List Int) (h : OKL l) : ∀ k, k ≤ l.length → (∀ i : Nat, i < l.length → rd (Hu.codesL l (Hu.countedS l).1 (Hu.usedL l k)).1 (i : Int) = if i < k then ((codeN l i : Nat) : Int) else 0) ∧
    (∀ j : Nat, 1 ≤ j → j ≤ 15 → rd (Hu.codesL l (Hu.countedS l).1 (Hu.usedL l k)).2 (j : Int) = ((firstC l j + (l.take k).count (j : Int) : Nat) : Int))
  | 0, _ => by
    rw [Hu.usedL_zero]
    unfold Hu.codesL
    rw [List.foldl_nil]
    refine ⟨fun i hi => ?_, fun j h1 hj => ?_⟩
    · rw [if_neg (by omega), rdN, List.getElem?_replicate, if_pos hi]; rfl
    · rw [next_rd l h 15 (by omega) j hj, List.take_zero, List.count_nil, Nat.add_zero]
  | k + 1, hk => by
    obtain ⟨i1, i2⟩ := codes_rd l h k (by omega)
    rw [Hu.usedL_succ]
    obtain ⟨x, hx⟩ : ∃ x, l[k]?.getD 0 = x := ⟨_, rfl⟩
    have hm := h.2.2 _ (mem_of_getD (show k < l.length by omega))
    have hcn : codeN l k = if x = 0 then 0 else firstC l x.toNat + (l.take k).count x := by unfold codeN; rw [hx]
    have htk := take_succ_getD l (show k < l.length by omega)
    rw [hx] at hm htk ⊢
    by_cases h0 : x = 0
    · rw [if_pos h0] at hcn
      rw [if_pos h0]
      refine ⟨fun i hi => ?_, fun j h1 hj => ?_⟩
      · rw [i1 i hi]
        by_cases hik : i = k
        · subst hik
          rw [if_neg (by omega), if_pos (by omega), hcn]; rfl
        · by_cases hlt : i < k
          · rw [if_pos hlt, if_pos (by omega)]
          · rw [if_neg hlt, if_neg (by omega)]
      · rw [i2 j h1 hj, htk, List.count_append, List.count_singleton, if_neg (c := (x == (j : Int)) = true) (by rw [beq_iff_eq]; omega), Nat.add_zero]
    · rw [if_neg h0] at hcn
      rw [if_neg h0, Hu.codesL_snoc]
      unfold Hu.codeStep
      obtain ⟨y, rfl⟩ : ∃ y : Nat, x = (y : Int) := ⟨x.toNat, by omega⟩
      rw [Int.toNat_natCast] at hcn
      have hl1 := Hu.codesL_len1 l (Hu.countedS l).1 (Hu.usedL l k)
      have hl2 := Hu.codesL_len2 l (Hu.countedS l).1 (Hu.usedL l k)
      have e2 := i2 y (by omega) (by omega)
      rw [Int.toNat_natCast, e2]
      have hb := firstC_lt l h.2.1 (show y ≤ 16 by omega)
      have hc := count_le l k (y : Int)
      have hle := h.2.1
      refine ⟨fun i hi => ?_, fun j h1 hj => ?_⟩
      · rw [rd_set _ _ _ _ (by rw [hl1]; omega)]
        by_cases hik : k = i
        · subst hik
          rw [if_pos rfl, if_pos (by omega), hcn]
        · rw [if_neg hik, i1 i hi]
          by_cases hlt : i < k
          · rw [if_pos hlt, if_pos (by omega)]
          · rw [if_neg hlt, if_neg (by omega)]
      · rw [rd_set _ _ _ _ (by rw [hl2]; omega), htk, List.count_append, List.count_singleton]
        by_cases hyj : y = j
        · subst hyj
          rw [if_pos rfl, if_pos (beq_iff_eq.mpr rfl), wrap64_id (by omega) (by omega)]
          omega
        · rw [if_neg hyj, i2 j h1 hj, if_neg (c := ((y : Int) == (j : Int)) = true) (by rw [beq_iff_eq]; omega), Nat.add_zero]
theorem ext_rd {a b : List Int} (hl : a.length = b.length) (h : ∀ i : Nat, i < a.length → rd a (i : Int) = rd b (i : Int)) : a = b := by
  apply List.ext_getElem hl
  intro i h1 h2
  have := h i h1
  rw [rdN, rdN, List.getElem?_eq_getElem h1, List.getElem?_eq_getElem h2] at this
  exact this
theorem okl_of_check {l : List Int} (hc : Hu.checkS l = 0 ∨ Hu.checkS l = 12) : OKL l := by
  by_cases h : OKL l
  · exact h
  · have := checkS_bad l h
    omega
/-- What huff.Codes tells. -/
theorem codesS_eq (l : List Int) : Hu.codesS l = if Hu.checkS l = 0 ∨ Hu.checkS l = 12 then (codesV l, 0) else ([], Hu.checkS l) := by
  unfold Hu.codesS
  by_cases hc : Hu.checkS l = 0 ∨ Hu.checkS l = 12
  · rw [if_pos hc, if_neg (by omega)]
    have h := okl_of_check hc
    have hl := Hu.codesL_len1 l (Hu.countedS l).1 (Hu.usedL l l.length)
    congr 1
    refine ext_rd (by rw [hl, codesV_len]) (fun i hi => ?_)
    rw [hl] at hi
    rw [(codes_rd l h l.length (Nat.le_refl _)).1 i hi, if_pos hi, codesV_rd l hi]
  · rw [if_neg hc, if_pos (by omega)]
/-! ### The document's codes -/
/-- The codes of the lengths below x, and of length x of the symbols below i. -/
def partV (l : List Int) (x i : Nat) : List Int := (List.range l.length).map fun j => if (l[j]?.getD 0).toNat < x ∨ ((l[j]?.getD 0).toNat = x ∧ j < i) then ((codeN l j : Nat) : Int) else 0
theorem partV_len (l : List Int) (x i : Nat) : (partV l x i).length = l.length := by unfold partV; rw [List.length_map, List.length_range]
theorem partV_rd (l : List Int) (x i : Nat) {j : Nat} (hj : j < l.length) : rd (partV l x i) (j : Int) = if (l[j]?.getD 0).toNat < x ∨ ((l[j]?.getD 0).toNat = x ∧ j < i) then ((codeN l j : Nat) : Int) else 0 := by
  rw [rdN]; unfold partV
  rw [List.getElem?_map, List.getElem?_range hj]; rfl
theorem ref_l2 (l : List Int) (h : OKL l) (r : List Int × Int) (x i : Nat) (hx : x ≤ 15) (hi : i < l.length) (out : List Int) (ho : out.length = l.length) :
    ∀ (d was : Nat) (code : Nat), was ≤ x → x - was = d → code * 2 ^ d ≤ 40000000 → Ev (fun k => valiseref04_Codes.l1 k l (out.set i ((code * 2 ^ d : Nat) : Int)) ((code * 2 ^ d : Nat) : Int) (x : Int) (x : Int) ((i + 1 : Nat) : Int)) r →
    Ev (fun k => valiseref04_Codes.l2 k l out (code : Int) (was : Int) (x : Int) (i : Int)) r
  | 0, was, code, hw, hd, hc, H => by
    obtain rfl : was = x := by omega
    refine Ev.succ (fun k => ?_) H
    rw [valiseref04_Codes.l2, if_neg (by omega), if_pos (by omega), if_pos (by rw [ho]; omega), Int.toNat_natCast]
    have := h.2.1
    rw [wrap64_id (by omega) (by omega), Nat.pow_zero, Nat.mul_one]
    rfl
  | d + 1, was, code, hw, hd, hc, H => by
    have e : code * 2 ^ (d + 1) = 2 * code * 2 ^ d := by rw [Nat.pow_succ, Nat.mul_comm 2 code, Nat.mul_assoc, Nat.mul_comm (2 ^ d) 2]
    rw [e] at hc H
    have hp : 1 ≤ 2 ^ d := Nat.one_le_two_pow
    have hc2 : 2 * code ≤ 40000000 := Nat.le_trans (by have := Nat.mul_le_mul_left (2 * code) hp; omega) hc
    refine Ev.succ (fun k => ?_) (ref_l2 l h r x i hx hi out ho d (was + 1) (2 * code) (by omega) (by omega) hc H)
    rw [valiseref04_Codes.l2, if_pos (by omega), wrap64_id (by omega) (by omega), wrap64_id (by omega) (by omega)]
    rfl
theorem partV_next (l : List Int) (h : OKL l) (x : Nat) : partV l (x + 1) 0 = partV l x l.length := by
  refine ext_rd (by rw [partV_len, partV_len]) (fun j hj => ?_)
  rw [partV_len] at hj
  rw [partV_rd l _ _ hj, partV_rd l _ _ hj]
  by_cases hh : (l[j]?.getD 0).toNat < x ∨ ((l[j]?.getD 0).toNat = x ∧ j < l.length)
  · rw [if_pos hh, if_pos (by omega)]
  · rw [if_neg hh, if_neg (by omega)]
theorem ref_l1 (l : List Int) (h : OKL l) (r : List Int × Int) (x : Nat) (h1 : 1 ≤ x) (hx : x ≤ 15)
    (H : ∀ (code : Int) (was : Nat), -1 ≤ code → was ≤ x → (code + 1) * 2 ^ (x + 1 - was) = (firstC l (x + 1) : Int) → Ev (fun k => valiseref04_Codes.l0 k l (partV l (x + 1) 0) code (was : Int) ((x + 1 : Nat) : Int)) r) :
    ∀ (d i : Nat) (code : Int) (was : Nat), l.length - i = d → i ≤ l.length → -1 ≤ code → was ≤ x → (code + 1) * 2 ^ (x - was) = ((firstC l x + (l.take i).count (x : Int) : Nat) : Int) →
      Ev (fun k => valiseref04_Codes.l1 k l (partV l x i) code (was : Int) (x : Int) (i : Int)) r
  | 0, i, code, was, hd, hi, hc, hw, e => by
    obtain rfl : i = l.length := by omega
    rw [List.take_length] at e
    have e2 : (code + 1) * 2 ^ (x + 1 - was) = (firstC l (x + 1) : Int) := by
      rw [show x + 1 - was = x - was + 1 by omega, Int.pow_succ, ← Int.mul_assoc, e, show firstC l (x + 1) = (firstC l x + if x = 0 then 0 else l.count (x : Int)) * 2 from rfl, if_neg (by omega)]
      omega
    refine Ev.succ (fun k => ?_) (H code was hc hw e2)
    rw [valiseref04_Codes.l1, if_neg (by omega), wrap64_id (by omega) (by omega), partV_next l h]
    rfl
  | d + 1, i, code, was, hd, hi, hc, hw, e => by
    have hlt : i < l.length := by omega
    have hle := h.2.1
    have hrd := rdN l i
    obtain ⟨v, hv⟩ : ∃ v, l[i]?.getD 0 = v := ⟨_, rfl⟩
    have hm := h.2.2 _ (mem_of_getD hlt)
    have htk := take_succ_getD l hlt
    rw [hv] at hrd hm htk
    have hb := firstC_lt l hle (show x ≤ 16 by omega)
    have hcl := count_le l i (x : Int)
    by_cases hvx : v = (x : Int)
    · obtain ⟨cn, hcn⟩ : ∃ cn : Nat, code + 1 = (cn : Int) := ⟨(code + 1).toNat, by omega⟩
      have e3 : cn * 2 ^ (x - was) = firstC l x + (l.take i).count (x : Int) := by
        rw [hcn] at e
        exact_mod_cast e
      have hcN : codeN l i = firstC l x + (l.take i).count (x : Int) := by
        unfold codeN
        rw [hv, if_neg (by omega), hvx, Int.toNat_natCast]
      have hset : (partV l x i).set i ((cn * 2 ^ (x - was) : Nat) : Int) = partV l x (i + 1) := by
        refine ext_rd (by rw [List.length_set, partV_len, partV_len]) (fun j hj => ?_)
        rw [List.length_set, partV_len] at hj
        rw [rd_set _ _ _ _ (by rw [partV_len]; omega), partV_rd l _ _ hj, partV_rd l _ _ hj]
        by_cases hij : i = j
        · subst hij
          rw [if_pos rfl, hv, if_pos (by omega), hcN, e3]
        · rw [if_neg hij]
          by_cases hh : (l[j]?.getD 0).toNat < x ∨ ((l[j]?.getD 0).toNat = x ∧ j < i)
          · rw [if_pos hh, if_pos (by omega)]
          · rw [if_neg hh, if_neg (by omega)]
      have hbc : cn * 2 ^ (x - was) ≤ 40000000 := by omega
      have hp : 1 ≤ 2 ^ (x - was) := Nat.one_le_two_pow
      have hcnb : cn ≤ 40000000 := Nat.le_trans (by have := Nat.mul_le_mul_left cn hp; omega) hbc
      have nx := ref_l1 l h r x h1 hx H d (i + 1) ((cn * 2 ^ (x - was) : Nat) : Int) x (by omega) (by omega) (by omega) (Nat.le_refl _) (by
        rw [Nat.sub_self, Int.pow_zero, Int.mul_one, htk, List.count_append, hvx, List.count_singleton, if_pos (beq_iff_eq.mpr rfl), e3]
        omega)
      refine Ev.succ (fun k => ?_) (ref_l2 l h r x i hx hlt (partV l x i) (partV_len l x i) (x - was) was cn hw rfl hbc (by rw [hset]; exact nx))
      rw [valiseref04_Codes.l1, if_pos (by omega), if_pos (by omega), hrd, if_pos hvx, hcn, wrap64_id (by omega) (by omega)]
    · have hpv : partV l x i = partV l x (i + 1) := by
        refine ext_rd (by rw [partV_len, partV_len]) (fun j hj => ?_)
        rw [partV_len] at hj
        rw [partV_rd l _ _ hj, partV_rd l _ _ hj]
        by_cases hij : i = j
        · subst hij
          rw [hv]
          by_cases hh : v.toNat < x ∨ (v.toNat = x ∧ i < i)
          · rw [if_pos hh, if_pos (by omega)]
          · rw [if_neg hh, if_neg (by omega)]
        · by_cases hh : (l[j]?.getD 0).toNat < x ∨ ((l[j]?.getD 0).toNat = x ∧ j < i)
          · rw [if_pos hh, if_pos (by omega)]
          · rw [if_neg hh, if_neg (by omega)]
      refine Ev.succ (fun k => ?_) (ref_l1 l h r x h1 hx H d (i + 1) code was (by omega) (by omega) hc hw (by
        rw [htk, List.count_append, List.count_singleton, if_neg (c := (v == (x : Int)) = true) (by rw [beq_iff_eq]; exact hvx), Nat.add_zero]
        exact e))
      rw [valiseref04_Codes.l1, if_pos (by omega), if_pos (by omega), hrd, if_neg hvx, wrap64_id (by omega) (by omega), ← hpv]
      rfl
theorem ref_l0 (l : List Int) (h : OKL l) : ∀ (d x : Nat) (code : Int) (was : Nat), 16 - x = d → 1 ≤ x → x ≤ 16 → -1 ≤ code → was + 1 ≤ x → (code + 1) * 2 ^ (x - was) = (firstC l x : Int) →
    Ev (fun k => valiseref04_Codes.l0 k l (partV l x 0) code (was : Int) (x : Int)) (codesV l, 0)
  | 0, x, code, was, hd, h1, hx, hc, hw, e => by
    obtain rfl : x = 16 := by omega
    have : partV l 16 0 = codesV l := by
      refine ext_rd (by rw [partV_len, codesV_len]) (fun j hj => ?_)
      rw [partV_len] at hj
      have hm := h.2.2 _ (mem_of_getD hj)
      rw [partV_rd l _ _ hj, codesV_rd l hj, if_pos (by omega)]
    rw [this]
    exact Ev.done (fun k => by rw [valiseref04_Codes.l0, if_neg (by omega)])
  | d + 1, x, code, was, hd, h1, hx, hc, hw, e => by
    refine Ev.succ (fun k => ?_) (ref_l1 l h _ x h1 (by omega) (fun code was hc hw e => ref_l0 l h d (x + 1) code was (by omega) (by omega) (by omega) hc (by omega) e) l.length 0 code was (by omega) (by omega) hc (by omega) (by rw [List.take_zero, List.count_nil, Nat.add_zero]; exact e))
    rw [valiseref04_Codes.l0, if_pos (by omega)]
    rfl
theorem partV_zero (l : List Int) (h : OKL l) : partV l 1 0 = List.replicate l.length 0 := by
  refine ext_rd (by rw [partV_len, List.length_replicate]) (fun j hj => ?_)
  rw [partV_len] at hj
  have hm := h.2.2 _ (mem_of_getD hj)
  rw [partV_rd l _ _ hj, rdN, List.getElem?_replicate, if_pos hj]
  by_cases hh : (l[j]?.getD 0).toNat < 1 ∨ ((l[j]?.getD 0).toNat = 1 ∧ j < 0)
  · rw [if_pos hh]
    unfold codeN
    rw [if_pos (by omega)]
    rfl
  · rw [if_neg hh]; rfl
/-- What the document's Codes tells. -/
theorem refCodes_eq (l : List Int) : Ev (fun k => valiseref04_Codes.f k l) (Hu.codesS l) := by
  rw [codesS_eq]
  by_cases hc : Hu.checkS l = 0 ∨ Hu.checkS l = 12
  · rw [if_pos hc]
    have h := okl_of_check hc
    obtain ⟨k, hk⟩ := ref_l0 l h 15 1 (-1) 0 rfl (by omega) (by omega) (by omega) (by omega) rfl
    rw [partV_zero l h] at hk
    refine ⟨k + l.length + 10, fun k' hk' => ?_⟩
    show valiseref04_Codes.f k' l = _
    unfold valiseref04_Codes.f
    obtain ⟨m, rfl⟩ : ∃ m, k' = m + 1 := ⟨k' - 1, by omega⟩
    have hle := h.2.1
    have hj : valiseref04_Codes.j0 (m + 1) l (Hu.checkS l) false = some (codesV l, 0) := by
      rw [valiseref04_Codes.j0, if_neg (by decide), if_pos (by omega), Int.toNat_natCast, if_pos (by omega)]
      exact hk m (by omega)
    rw [check4_eq l (by omega), Option.bind_some]
    rcases hc with hc | hc
    · rw [if_pos hc, hj]
    · rw [if_neg (by omega), show (Hu.checkS l != 12) = false from bne_eq_false_iff_eq.mpr hc, hj]
  · rw [if_neg hc]
    refine ⟨l.length + 10, fun k' hk' => ?_⟩
    show valiseref04_Codes.f k' l = _
    unfold valiseref04_Codes.f
    obtain ⟨m, rfl⟩ : ∃ m, k' = m + 1 := ⟨k' - 1, by omega⟩
    rw [check4_eq l (by omega), Option.bind_some, if_neg (by omega), show (Hu.checkS l != 12) = true from bne_iff_ne.mpr (by omega), valiseref04_Codes.j0, if_pos rfl]
end Go.Proofs.Ythcndpdfcippiaa.Pr
