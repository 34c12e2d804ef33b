-- Texts by hand and by programs of this session, joined (wip/tool/merge.py).
import Derived.Shelf.Abstract
import Derived.Shelf.RegionOpen
import Derived.OwnWalkIn
import Derived.TacticsInMore
import Derived.LoopNIn
import Derived.LoopIn
import Derived.Test.YtgflkkjhckcipaaDoorMIC14
import Derived.Test.YtgflkkjhckcipaaDoorMIC15
import Derived.Test.YtgflkkjhckcipaaDoorMIC16
import Derived.Test.YtgflkkjhckcipaaDoorMIC17
import Derived.Test.YtgflkkjhckcipaaDoorMIC18
-- YtgflkkjhckcipaaDoorIf31
namespace Go.Proofs.YtgflkkjhckcipaaDoor.Pr
open Go.RowKit Go.Shelf Go.Proofs.YtgflkkjhckcipaaDoorW.PrintWords Go.Proofs.YtgflkkjhckcipaaDoorW.PrintLast Go.Proofs.YtgflkkjhckcipaaDoorW.PrintMore
set_option linter.unusedVariables false
set_option linter.unusedSimpArgs false
open Go.Proofs.YtgflkkjhckcipaaDoor.Pg
def tk1 (x : Int) : Nat := if 0 < x then 2 ^ (15 - x.toNat) else 0
def takeS (l : List Int) : Nat := (l.map tk1).sum
theorem tk1_le (x : Int) : tk1 x ≤ 32768 := by
  unfold tk1
  split
  · exact Nat.pow_le_pow_right (n := 2) (by omega) (show 15 - x.toNat ≤ 15 by omega)
  omega
theorem drop_getD (l : List Int) {i : Nat} (hi : i < l.length) : l.drop i = rd l (i : Int) :: l.drop (i + 1) := by
  rw [List.drop_eq_getElem_cons hi, rdN, List.getElem?_eq_getElem hi]; rfl
theorem shl1 (m : Nat) (hm : m ≤ 15) : shl .i64 1 (m : Int) = ((2 ^ m : Nat) : Int) := by
  have : m = 0 ∨ m = 1 ∨ m = 2 ∨ m = 3 ∨ m = 4 ∨ m = 5 ∨ m = 6 ∨ m = 7 ∨ m = 8 ∨ m = 9 ∨ m = 10 ∨ m = 11 ∨ m = 12 ∨ m = 13 ∨ m = 14 ∨ m = 15 := by omega
  rcases this with rfl | rfl | rfl | rfl | rfl | rfl | rfl | rfl | rfl | rfl | rfl | rfl | rfl | rfl | rfl | rfl <;> decide +kernel
theorem takes_l0 (l : List Int) (h : OKL l) : ∀ (d k i : Nat) (n : Nat), l.length - i ≤ d → d < k → i ≤ l.length → n ≤ i * 32768 → valiseref04_Takes.l0 k l (n : Int) (i : Int) = some ((n + takeS (l.drop i) : Nat) : Int)
  | d, 0, i, n, _, hk, _, _ => by omega
  | d, k + 1, i, n, hd, hk, hi, hn => by
    rw [valiseref04_Takes.l0]
    by_cases hlt : i < l.length
    · rw [if_pos (by omega), if_pos (by omega)]
      obtain ⟨d, rfl⟩ : ∃ d', d = d' + 1 := ⟨d - 1, by omega⟩
      have hm := h.2.2 _ (mem_of_getD hlt)
      rw [← rdN] at hm
      have hl := h.2.1
      rw [drop_getD l hlt]
      have e2 : takeS (rd l (i : Int) :: l.drop (i + 1)) = tk1 (rd l (i : Int)) + takeS (l.drop (i + 1)) := by unfold takeS; rw [List.map_cons, List.sum_cons]
      rw [e2]
      obtain ⟨x, hx⟩ : ∃ x, rd l (i : Int) = x := ⟨_, rfl⟩
      rw [hx] at hm ⊢
      rw [wrap64_id (x := (i : Int) + 1) (by omega) (by omega), show (i : Int) + 1 = ((i + 1 : Nat) : Int) by omega]
      have ht := tk1_le x
      by_cases h0 : x > 0
      · rw [if_pos h0, wrap64_id (x := 15 - x) (by omega) (by omega), if_pos (by omega)]
        have ex : 15 - x = ((15 - x.toNat : Nat) : Int) := by omega
        have et : tk1 x = 2 ^ (15 - x.toNat) := by unfold tk1; rw [if_pos h0]
        rw [ex, shl1 _ (by omega), ← et, wrap64_id (by omega) (by omega), show (n : Int) + (tk1 x : Int) = ((n + tk1 x : Nat) : Int) by omega, takes_l0 l h d k (i + 1) (n + tk1 x) (by omega) (by omega) (by omega) (by omega)]
        congr 2
        omega
      · have hn2 : n ≤ (i + 1) * 32768 := Nat.le_trans hn (Nat.mul_le_mul_right _ (Nat.le_succ i))
        rw [if_neg h0, takes_l0 l h d k (i + 1) n (by omega) (by omega) (by omega) hn2]
        have et : tk1 x = 0 := by unfold tk1; rw [if_neg h0]
        rw [et, Nat.zero_add]
    · rw [if_neg (by omega), List.drop_of_length_le (by omega)]
      simp [takeS]
theorem takes_eq (l : List Int) (h : OKL l) {k : Nat} (hk : l.length < k) : valiseref04_Takes.f k l = some ((takeS l : Nat) : Int) := by
  unfold valiseref04_Takes.f
  have := takes_l0 l h l.length k 0 0 (by omega) hk (by omega) (by omega)
  rw [List.drop_zero, Nat.zero_add] at this
  exact this
theorem lengths_l0 (l : List Int) (hl : l.length ≤ 288) : ∀ (d k i : Nat), l.length - i ≤ d → d < k → i ≤ l.length → valiseref04_Lengths.l0 k l (i : Int) = some (decide (∀ x ∈ l.drop i, 0 ≤ x ∧ x ≤ 15))
  | d, 0, i, _, hk, _ => by omega
  | d, k + 1, i, hd, hk, hi => by
    rw [valiseref04_Lengths.l0]
    by_cases hlt : i < l.length
    · rw [if_pos (by omega), if_pos (by omega), drop_getD l hlt]
      obtain ⟨d, rfl⟩ : ∃ d', d = d' + 1 := ⟨d - 1, by omega⟩
      rw [wrap64_id (x := (i : Int) + 1) (by omega) (by omega), show (i : Int) + 1 = ((i + 1 : Nat) : Int) by omega, lengths_l0 l hl d k (i + 1) (by omega) (by omega) (by omega)]
      by_cases h0 : rd l (i : Int) < 0
      · rw [if_pos h0]
        congr 1
        exact (decide_eq_false (fun h => by have := h _ (List.mem_cons_self ..); omega)).symm
      · rw [if_neg h0]
        by_cases h1 : rd l (i : Int) > 15
        · rw [if_pos h1]
          congr 1
          exact (decide_eq_false (fun h => by have := h _ (List.mem_cons_self ..); omega)).symm
        · rw [if_neg h1]
          congr 1
          rw [decide_eq_decide]
          exact ⟨fun h x hx => (List.mem_cons.1 hx).elim (fun e => by subst e; omega) (h x), fun h x hx => h x (List.mem_cons_of_mem _ hx)⟩
    · rw [if_neg (by omega), List.drop_of_length_le (by omega)]
      simp
instance (l : List Int) : Decidable (OKL l) := by unfold OKL; infer_instance
theorem lengths_eq (l : List Int) {k : Nat} (hk : l.length + 2 < k) : valiseref04_Lengths.f k l = some (decide (OKL l)) := by
  obtain ⟨k, rfl⟩ : ∃ k', k = k' + 1 := ⟨k - 1, by omega⟩
  unfold valiseref04_Lengths.f
  by_cases h0 : (l.length : Int) = 0
  · rw [if_pos h0, valiseref04_Lengths.j0, if_pos rfl]
    congr 1
    exact (decide_eq_false (fun h => by have := h.1; omega)).symm
  rw [if_neg h0, valiseref04_Lengths.j0]
  by_cases h1 : (l.length : Int) > 288
  · rw [if_pos (decide_eq_true h1)]
    congr 1
    exact (decide_eq_false (fun h => by have := h.2.1; omega)).symm
  rw [if_neg (by rw [decide_eq_true_eq]; exact h1)]
  have := lengths_l0 l (by omega) l.length k 0 (by omega) (by omega) (by omega)
  rw [List.drop_zero] at this
  rw [show (0 : Int) = ((0 : Nat) : Int) from rfl, this]
  congr 1
  rw [decide_eq_decide]
  exact ⟨fun h => ⟨by omega, by omega, h⟩, fun h => h.2.2⟩
theorem takeT_nil : ∀ d, takeT [] d = 0
  | 0 => rfl
  | d + 1 => by unfold takeT; rw [takeT_nil d]; simp
theorem takeT_cons (x : Int) (l : List Int) (hx : 0 ≤ x ∧ x ≤ 15) : ∀ d, d ≤ 15 → takeT (x :: l) d = takeT l d + if 15 - d < x.toNat then tk1 x else 0
  | 0, _ => by
    unfold takeT
    rw [if_neg (by omega)]
  | d + 1, hd => by
    unfold takeT
    rw [takeT_cons x l hx d (by omega), List.count_cons, Nat.add_mul]
    unfold tk1
    by_cases he : x = ((15 - d : Nat) : Int)
    · rw [if_pos (beq_iff_eq.mpr he), if_neg (show ¬ 15 - d < x.toNat by omega), if_pos (show 15 - (d + 1) < x.toNat by omega), if_pos (show 0 < x by omega), show 15 - x.toNat = d by omega]
      omega
    · rw [if_neg (c := (x == ((15 - d : Nat) : Int)) = true) (by rw [beq_iff_eq]; exact he)]
      by_cases hl : 15 - d < x.toNat
      · rw [if_pos hl, if_pos (show 15 - (d + 1) < x.toNat by omega)]
        omega
      · rw [if_neg hl, if_neg (show ¬ 15 - (d + 1) < x.toNat by omega)]
        omega
theorem takeT_eq : ∀ (l : List Int), (∀ x ∈ l, 0 ≤ x ∧ x ≤ 15) → takeT l 15 = takeS l
  | [], _ => by rw [takeT_nil]; rfl
  | x :: l, h => by
    have hx := h x (List.mem_cons_self ..)
    rw [takeT_cons x l hx 15 (by omega), takeT_eq l (fun y hy => h y (List.mem_cons_of_mem _ hy))]
    unfold takeS
    rw [List.map_cons, List.sum_cons]
    by_cases h0 : 0 < x.toNat
    · rw [if_pos (by omega)]
      omega
    · rw [if_neg (by omega)]
      have : tk1 x = 0 := by unfold tk1; rw [if_neg (by omega)]
      omega
theorem check4_eq (l : List Int) {k : Nat} (hk : l.length + 2 < k) : valiseref04_Check.f k l = some (Hu.checkS l) := by
  unfold valiseref04_Check.f
  rw [lengths_eq l hk, Option.bind_some]
  by_cases h : OKL l
  · rw [if_pos (decide_eq_true h), takes_eq l h (by omega), Option.bind_some, checkS_eq l h, takeT_eq l h.2.2]
    by_cases h1 : takeS l > 32768
    · rw [if_pos h1, if_pos (by omega)]
    rw [if_neg h1, if_neg (by omega)]
    by_cases h2 : takeS l < 32768
    · rw [if_pos h2, if_pos (by omega)]
    rw [if_neg h2, if_neg (by omega)]
  rw [if_neg (by rw [decide_eq_true_eq]; exact h), checkS_bad l h]
def codesV (l : List Int) : List Int := (List.range l.length).map fun i => ((codeN l i : Nat) : Int)
theorem codesV_len (l : List Int) : (codesV l).length = l.length := by unfold codesV; rw [List.length_map, List.length_range]
theorem codesV_rd (l : List Int) {i : Nat} (hi : i < l.length) : rd (codesV l) (i : Int) = ((codeN l i : Nat) : Int) := by
  rw [rdN]; unfold codesV
  rw [List.getElem?_map, List.getElem?_range hi]; rfl
theorem ext_rd {a b : List Int} (hl : a.length = b.length) (h : ∀ i : Nat, i < a.length → rd a (i : Int) = rd b (i : Int)) : a = b := by
  apply List.ext_getElem hl
  intro i h1 h2
  have := h i h1
  rw [rdN, rdN, List.getElem?_eq_getElem h1, List.getElem?_eq_getElem h2] at this
  exact this
def Hu.codesS (l : List Int) : List Int × Int := if Hu.checkS l = 0 ∨ Hu.checkS l = 12 then (codesV l, 0) else ([], Hu.checkS l)
theorem codesS_eq (l : List Int) : Hu.codesS l = if Hu.checkS l = 0 ∨ Hu.checkS l = 12 then (codesV l, 0) else ([], Hu.checkS l) := rfl
def partV (l : List Int) (x i : Nat) : List Int := (List.range l.length).map fun j => if (l[j]?.getD 0).toNat < x ∨ ((l[j]?.getD 0).toNat = x ∧ j < i) then ((codeN l j : Nat) : Int) else 0
theorem partV_len (l : List Int) (x i : Nat) : (partV l x i).length = l.length := by unfold partV; rw [List.length_map, List.length_range]
theorem partV_rd (l : List Int) (x i : Nat) {j : Nat} (hj : j < l.length) : rd (partV l x i) (j : Int) = if (l[j]?.getD 0).toNat < x ∨ ((l[j]?.getD 0).toNat = x ∧ j < i) then ((codeN l j : Nat) : Int) else 0 := by
  rw [rdN]; unfold partV
  rw [List.getElem?_map, List.getElem?_range hj]; rfl
theorem ref_l2 (l : List Int) (h : OKL l) (r : List Int × Int) (x i : Nat) (hx : x ≤ 15) (hi : i < l.length) (out : List Int) (ho : out.length = l.length) :
    ∀ (d was : Nat) (code : Nat), was ≤ x → x - was = d → code * 2 ^ d ≤ 40000000 → Ev (fun k => valiseref04_Codes.l1 k l (out.set i ((code * 2 ^ d : Nat) : Int)) ((code * 2 ^ d : Nat) : Int) (x : Int) (x : Int) ((i + 1 : Nat) : Int)) r →
    Ev (fun k => valiseref04_Codes.l2 k l out (code : Int) (was : Int) (x : Int) (i : Int)) r
  | 0, was, code, hw, hd, hc, H => by
    obtain rfl : was = x := by omega
    refine Ev.succ (fun k => ?_) H
    rw [valiseref04_Codes.l2, if_neg (by omega), if_pos (by omega), if_pos (by rw [ho]; omega), Int.toNat_natCast]
    have := h.2.1
    rw [wrap64_id (by omega) (by omega), Nat.pow_zero, Nat.mul_one]
    rfl
  | d + 1, was, code, hw, hd, hc, H => by
    have e : code * 2 ^ (d + 1) = 2 * code * 2 ^ d := by rw [Nat.pow_succ, Nat.mul_comm 2 code, Nat.mul_assoc, Nat.mul_comm (2 ^ d) 2]
    rw [e] at hc H
    have hp : 1 ≤ 2 ^ d := Nat.one_le_two_pow
    have hc2 : 2 * code ≤ 40000000 := Nat.le_trans (by have := Nat.mul_le_mul_left (2 * code) hp; omega) hc
    refine Ev.succ (fun k => ?_) (ref_l2 l h r x i hx hi out ho d (was + 1) (2 * code) (by omega) (by omega) hc H)
    rw [valiseref04_Codes.l2, if_pos (by omega), wrap64_id (by omega) (by omega), wrap64_id (by omega) (by omega)]
    rfl
theorem partV_next (l : List Int) (h : OKL l) (x : Nat) : partV l (x + 1) 0 = partV l x l.length := by
  refine ext_rd (by rw [partV_len, partV_len]) (fun j hj => ?_)
  rw [partV_len] at hj
  rw [partV_rd l _ _ hj, partV_rd l _ _ hj]
  by_cases hh : (l[j]?.getD 0).toNat < x ∨ ((l[j]?.getD 0).toNat = x ∧ j < l.length)
  · rw [if_pos hh, if_pos (by omega)]
  rw [if_neg hh, if_neg (by omega)]
theorem ref_l1 (l : List Int) (h : OKL l) (r : List Int × Int) (x : Nat) (h1 : 1 ≤ x) (hx : x ≤ 15)
    (H : ∀ (code : Int) (was : Nat), -1 ≤ code → was ≤ x → (code + 1) * 2 ^ (x + 1 - was) = (firstC l (x + 1) : Int) → Ev (fun k => valiseref04_Codes.l0 k l (partV l (x + 1) 0) code (was : Int) ((x + 1 : Nat) : Int)) r) :
    ∀ (d i : Nat) (code : Int) (was : Nat), l.length - i = d → i ≤ l.length → -1 ≤ code → was ≤ x → (code + 1) * 2 ^ (x - was) = ((firstC l x + (l.take i).count (x : Int) : Nat) : Int) →
      Ev (fun k => valiseref04_Codes.l1 k l (partV l x i) code (was : Int) (x : Int) (i : Int)) r
  | 0, i, code, was, hd, hi, hc, hw, e => by
    obtain rfl : i = l.length := by omega
    rw [List.take_length] at e
    have e2 : (code + 1) * 2 ^ (x + 1 - was) = (firstC l (x + 1) : Int) := by
      rw [show x + 1 - was = x - was + 1 by omega, Int.pow_succ, ← Int.mul_assoc, e, show firstC l (x + 1) = (firstC l x + if x = 0 then 0 else l.count (x : Int)) * 2 from rfl, if_neg (by omega)]
      omega
    refine Ev.succ (fun k => ?_) (H code was hc hw e2)
    rw [valiseref04_Codes.l1, if_neg (by omega), wrap64_id (by omega) (by omega), partV_next l h]
    rfl
  | d + 1, i, code, was, hd, hi, hc, hw, e => by
    have hlt : i < l.length := by omega
    have hle := h.2.1
    have hrd := rdN l i
    obtain ⟨v, hv⟩ : ∃ v, l[i]?.getD 0 = v := ⟨_, rfl⟩
    have hm := h.2.2 _ (mem_of_getD hlt)
    have htk := take_succ_getD l hlt
    rw [hv] at hrd hm htk
    have hb := firstC_lt l hle (show x ≤ 16 by omega)
    have hcl := count_le l i (x : Int)
    by_cases hvx : v = (x : Int)
    · obtain ⟨cn, hcn⟩ : ∃ cn : Nat, code + 1 = (cn : Int) := ⟨(code + 1).toNat, by omega⟩
      have e3 : cn * 2 ^ (x - was) = firstC l x + (l.take i).count (x : Int) := by
        rw [hcn] at e
        exact_mod_cast e
      have hcN : codeN l i = firstC l x + (l.take i).count (x : Int) := by
        unfold codeN
        rw [hv, if_neg (by omega), hvx, Int.toNat_natCast]
      have hset : (partV l x i).set i ((cn * 2 ^ (x - was) : Nat) : Int) = partV l x (i + 1) := by
        refine ext_rd (by rw [List.length_set, partV_len, partV_len]) (fun j hj => ?_)
        rw [List.length_set, partV_len] at hj
        rw [rd_set _ _ _ _ (by rw [partV_len]; omega), partV_rd l _ _ hj, partV_rd l _ _ hj]
        by_cases hij : i = j
        · subst hij
          rw [if_pos rfl, hv, if_pos (by omega), hcN, e3]
        · rw [if_neg hij]
          by_cases hh : (l[j]?.getD 0).toNat < x ∨ ((l[j]?.getD 0).toNat = x ∧ j < i)
          · rw [if_pos hh, if_pos (by omega)]
          · rw [if_neg hh, if_neg (by omega)]
      have hbc : cn * 2 ^ (x - was) ≤ 40000000 := by omega
      have hp : 1 ≤ 2 ^ (x - was) := Nat.one_le_two_pow
      have hcnb : cn ≤ 40000000 := Nat.le_trans (by have := Nat.mul_le_mul_left cn hp; omega) hbc
      have nx := ref_l1 l h r x h1 hx H d (i + 1) ((cn * 2 ^ (x - was) : Nat) : Int) x (by omega) (by omega) (by omega) (Nat.le_refl _) (by
        rw [Nat.sub_self, Int.pow_zero, Int.mul_one, htk, List.count_append, hvx, List.count_singleton, if_pos (beq_iff_eq.mpr rfl), e3]
        omega)
      refine Ev.succ (fun k => ?_) (ref_l2 l h r x i hx hlt (partV l x i) (partV_len l x i) (x - was) was cn hw rfl hbc (by rw [hset]; exact nx))
      rw [valiseref04_Codes.l1, if_pos (by omega), if_pos (by omega), hrd, if_pos hvx, hcn, wrap64_id (by omega) (by omega)]
    · have hpv : partV l x i = partV l x (i + 1) := by
        refine ext_rd (by rw [partV_len, partV_len]) (fun j hj => ?_)
        rw [partV_len] at hj
        rw [partV_rd l _ _ hj, partV_rd l _ _ hj]
        by_cases hij : i = j
        · subst hij
          rw [hv]
          by_cases hh : v.toNat < x ∨ (v.toNat = x ∧ i < i)
          · rw [if_pos hh, if_pos (by omega)]
          · rw [if_neg hh, if_neg (by omega)]
        · by_cases hh : (l[j]?.getD 0).toNat < x ∨ ((l[j]?.getD 0).toNat = x ∧ j < i)
          · rw [if_pos hh, if_pos (by omega)]
          · rw [if_neg hh, if_neg (by omega)]
      refine Ev.succ (fun k => ?_) (ref_l1 l h r x h1 hx H d (i + 1) code was (by omega) (by omega) hc hw (by
        rw [htk, List.count_append, List.count_singleton, if_neg (c := (v == (x : Int)) = true) (by rw [beq_iff_eq]; exact hvx), Nat.add_zero]
        exact e))
      rw [valiseref04_Codes.l1, if_pos (by omega), if_pos (by omega), hrd, if_neg hvx, wrap64_id (by omega) (by omega), ← hpv]
      rfl
theorem ref_l0 (l : List Int) (h : OKL l) : ∀ (d x : Nat) (code : Int) (was : Nat), 16 - x = d → 1 ≤ x → x ≤ 16 → -1 ≤ code → was + 1 ≤ x → (code + 1) * 2 ^ (x - was) = (firstC l x : Int) →
    Ev (fun k => valiseref04_Codes.l0 k l (partV l x 0) code (was : Int) (x : Int)) (codesV l, 0)
  | 0, x, code, was, hd, h1, hx, hc, hw, e => by
    obtain rfl : x = 16 := by omega
    have : partV l 16 0 = codesV l := by
      refine ext_rd (by rw [partV_len, codesV_len]) (fun j hj => ?_)
      rw [partV_len] at hj
      have hm := h.2.2 _ (mem_of_getD hj)
      rw [partV_rd l _ _ hj, codesV_rd l hj, if_pos (by omega)]
    rw [this]
    exact Ev.done (fun k => by rw [valiseref04_Codes.l0, if_neg (by omega)])
  | d + 1, x, code, was, hd, h1, hx, hc, hw, e => by
    refine Ev.succ (fun k => ?_) (ref_l1 l h _ x h1 (by omega) (fun code was hc hw e => ref_l0 l h d (x + 1) code was (by omega) (by omega) (by omega) hc (by omega) e) l.length 0 code was (by omega) (by omega) hc (by omega) (by rw [List.take_zero, List.count_nil, Nat.add_zero]; exact e))
    rw [valiseref04_Codes.l0, if_pos (by omega)]
    rfl
theorem partV_zero (l : List Int) (h : OKL l) : partV l 1 0 = List.replicate l.length 0 := by
  refine ext_rd (by rw [partV_len, List.length_replicate]) (fun j hj => ?_)
  rw [partV_len] at hj
  have hm := h.2.2 _ (mem_of_getD hj)
  rw [partV_rd l _ _ hj, rdN, List.getElem?_replicate, if_pos hj]
  by_cases hh : (l[j]?.getD 0).toNat < 1 ∨ ((l[j]?.getD 0).toNat = 1 ∧ j < 0)
  · rw [if_pos hh]
    unfold codeN
    rw [if_pos (by omega)]
    rfl
  rw [if_neg hh]; rfl
theorem refCodes_eq (l : List Int) : Ev (fun k => valiseref04_Codes.f k l) (Hu.codesS l) := by
  rw [codesS_eq]
  by_cases hc : Hu.checkS l = 0 ∨ Hu.checkS l = 12
  rotate_left
  · rw [if_neg hc]
    refine ⟨l.length + 10, fun k' hk' => ?_⟩
    show valiseref04_Codes.f k' l = _
    unfold valiseref04_Codes.f
    obtain ⟨m, rfl⟩ : ∃ m, k' = m + 1 := ⟨k' - 1, by omega⟩
    rw [check4_eq l (by omega), Option.bind_some, if_neg (by omega), show (Hu.checkS l != 12) = true from bne_iff_ne.mpr (by omega), valiseref04_Codes.j0, if_pos rfl]
  rw [if_pos hc]
  have h := okl_of_check hc
  obtain ⟨k, hk⟩ := ref_l0 l h 15 1 (-1) 0 rfl (by omega) (by omega) (by omega) (by omega) rfl
  rw [partV_zero l h] at hk
  refine ⟨k + l.length + 10, fun k' hk' => ?_⟩
  show valiseref04_Codes.f k' l = _
  unfold valiseref04_Codes.f
  obtain ⟨m, rfl⟩ : ∃ m, k' = m + 1 := ⟨k' - 1, by omega⟩
  have hle := h.2.1
  have hj : valiseref04_Codes.j0 (m + 1) l (Hu.checkS l) false = some (codesV l, 0) := by
    rw [valiseref04_Codes.j0, if_neg (by decide), if_pos (by omega), Int.toNat_natCast, if_pos (by omega)]
    exact hk m (by omega)
  rw [check4_eq l (by omega), Option.bind_some]
  rcases hc with hc | hc
  · rw [if_pos hc, hj]
  rw [if_neg (by omega), show (Hu.checkS l != 12) = false from bne_eq_false_iff_eq.mpr hc, hj]
end Go.Proofs.YtgflkkjhckcipaaDoor.Pr

-- YtgflkkjhckcipaaDoorIf32
namespace Go.Proofs.YtgflkkjhckcipaaDoor.Pr
open Go.RowKit Go.Shelf Go.Proofs.YtgflkkjhckcipaaDoorW.PrintWords Go.Proofs.YtgflkkjhckcipaaDoorW.PrintLast Go.Proofs.YtgflkkjhckcipaaDoorW.PrintMore
set_option linter.unusedVariables false
set_option linter.unusedSimpArgs false
open Go.Proofs.YtgflkkjhckcipaaDoor.Pg
theorem right_eq {l : List Int} {n : Int} (hb : Byt l) (hl : l.length ≤ 140737488355328) (h0 : -9223372036854775808 ≤ n) (h1 : n ≤ 9223372036854775807) : valiseref01_Right.f l n = some (okR l n) := by
  unfold valiseref01_Right.f
  by_cases hn : n < 0
  · rw [if_pos hn]
    have : okR l n = false := by unfold okR; simp; omega
    rw [this]
  rw [if_neg hn]
  obtain ⟨m, rfl⟩ : ∃ m : Nat, n = (m : Int) := ⟨n.toNat, by omega⟩
  rw [tdiv8, tmod8]
  have e1 : wrap64 (((m % 8 : Nat) : Int) + 7) = ((m % 8 + 7 : Nat) : Int) := by rw [wrapid (by omega) (by omega)]; omega
  rw [e1, tdiv8]
  have e2 : wrap64 (wrap64 ((m / 8 : Nat) : Int) + wrap64 (((m % 8 + 7) / 8 : Nat) : Int)) = (((m + 7) / 8 : Nat) : Int) := by
    rw [wrapid (x := ((m / 8 : Nat) : Int)) (by omega) (by omega), wrapid (x := (((m % 8 + 7) / 8 : Nat) : Int)) (by omega) (by omega), wrapid (by omega) (by omega)]; omega
  rw [e2]
  by_cases hlen : l.length = (m + 7) / 8
  rotate_left
  · rw [if_neg (by omega)]
    have : okR l (m : Int) = false := by unfold okR; rw [Int.toNat_natCast]; simp only [Bool.and_eq_false_iff, decide_eq_false_iff_not]; exact .inl (.inr hlen)
    rw [this]
  rw [if_pos (by omega)]
  by_cases h8 : m % 8 = 0
  · rw [if_pos (by omega)]
    have : okR l (m : Int) = true := by
      unfold okR
      rw [Int.toNat_natCast, List.getD_eq_getElem?_getD, List.getElem?_eq_none (by omega)]
      simp [hlen]
      exact pow_pos2 _
    rw [this]
  rw [if_neg (by omega)]
  have e4 : wrap64 ((l.length : Int) - 1) = ((m / 8 : Nat) : Int) := by rw [wrapid (by omega) (by omega)]; omega
  rw [e4, if_pos (by omega), if_pos (by omega), if_pos (by omega), rd_nat, shr8_eq _ _ (by omega)]
  congr 1
  unfold okR
  rw [Int.toNat_natCast, Bool.eq_iff_iff]
  simp only [beq_iff_eq, Bool.and_eq_true, decide_eq_true_eq]
  rw [last_zero hb hlen h8]
  exact ⟨fun h => ⟨⟨by omega, hlen⟩, h⟩, fun h => h.2⟩
theorem copy_eq {l : List Int} {n : Int} (hl : l.length < 140737488355328) : valiseref01_Copy.f l n = some (l, n) := by
  unfold valiseref01_Copy.f
  simp only [Option.bind_some, List.length_nil, Nat.zero_add, List.nil_append]
  rw [if_pos hl]
theorem with_eq {l : List Int} {n : Nat} (h : Rgt l n) {b : Int} (hb : b = 0 ∨ b = 1) (hn : n ≤ 1125899906842616) : valiseref01_With.f l (n : Int) b = some (lay l n b, ((n + 1 : Nat) : Int)) := by
  have hl := h.2.1
  unfold valiseref01_With.f
  have hw : wrap64 ((n : Int) + 1) = ((n + 1 : Nat) : Int) := by rw [wrapid (by omega) (by omega)]; omega
  have hb2 : b % 256 = b := by omega
  rw [tmod8, tdiv8, hw, hb2, wrapid (x := ((n / 8 : Nat) : Int)) (by omega) (by omega)]
  unfold lay
  by_cases h8 : n % 8 = 0
  · rw [if_pos (by omega), if_pos h8, if_pos (by omega)]
  rw [if_neg (by omega), if_neg h8, if_pos (by omega), if_pos (by omega), if_pos (by omega), rd_nat, Int.toNat_natCast, shl8_eq _ _ (by omega)]
  have hx := byt_get h.1 (n / 8)
  have h3 := h.2.2
  generalize l.getD (n / 8) 0 = x at h3 hx ⊢
  have : (x + b * 2 ^ (n % 8) % 256) % 256 = x + b * 2 ^ (n % 8) := by
    rcases pow8 (n % 8) (by omega) with ⟨e, _⟩ | ⟨e, _⟩ | ⟨e, _⟩ | ⟨e, _⟩ | ⟨e, _⟩ | ⟨e, _⟩ | ⟨e, _⟩ | ⟨e, _⟩ <;> rw [e] at h3 ⊢ <;> rcases hb with rfl | rfl <;> omega
  rw [this]
def bitsD (v : Int) : Nat → List Int
  | 0 => []
  | d + 1 => vb v d :: bitsD v d
theorem bitsD_len (v : Int) : ∀ d, (bitsD v d).length = d
  | 0 => rfl
  | d + 1 => by rw [bitsD, List.length_cons, bitsD_len v d]
theorem bitsD_01 (v : Int) : ∀ d, ∀ b ∈ bitsD v d, b = 0 ∨ b = 1
  | 0, b, h => by cases h
  | d + 1, b, h => (List.mem_cons.1 h).elim (fun e => e ▸ vb_01 v d) (bitsD_01 v d b)
theorem bitsD_get (v : Int) : ∀ d j, j < d → (bitsD v d).getD j 0 = vb v (d - 1 - j)
  | 0, _, h => by omega
  | d + 1, 0, _ => by rw [bitsD, List.getD_cons_zero]; rfl
  | d + 1, j + 1, h => by rw [bitsD, List.getD_cons_succ, bitsD_get v d j (by omega), show d + 1 - 1 - (j + 1) = d - 1 - j by omega]
def hputS (l : List Int) (n : Int) (zs : List Int) (sym : Int) : List Int × Int × Int :=
  if OKL zs ∧ okR l n = true ∧ 0 ≤ sym ∧ sym < (zs.length : Int) then
    if Hu.checkS zs = 0 ∨ Hu.checkS zs = 12 then (if rd zs sym = 0 then ([], 0, 13) else (layA l n.toNat (bitsD ((codeN zs sym.toNat : Nat) : Int) (rd zs sym).toNat), n + rd zs sym, 0)) else ([], 0, Hu.checkS zs) else ([], 0, 2)
theorem refPut_l0 (cs : List Int) (sym : Nat) (hs : sym < cs.length) (v : Int) (hv : rd cs (sym : Int) = v) (hv0 : 0 ≤ v) (hv1 : v ≤ 9223372036854775807) : ∀ (d k : Nat) {l : List Int} {n : Nat}, d ≤ 60 → d < k → Rgt l n → n + d ≤ 1125899906842616 →
    valiseref04_Put.l0 k (sym : Int) cs ((d : Int) - 1) l (n : Int) = some (layA l n (bitsD v d), ((n + d : Nat) : Int), 0)
  | 0, k, l, n, _, hk, h, hn => by
    obtain ⟨k, rfl⟩ : ∃ m, k = m + 1 := ⟨k - 1, by omega⟩
    rw [valiseref04_Put.l0, if_neg (by omega)]
    rfl
  | d + 1, k, l, n, hd, hk, h, hn => by
    obtain ⟨k, rfl⟩ : ∃ m, k = m + 1 := ⟨k - 1, by omega⟩
    have e : ((d + 1 : Nat) : Int) - 1 = (d : Int) := by omega
    rw [e, valiseref04_Put.l0, if_pos (by omega), if_pos (by omega), if_pos (by omega), if_pos (by omega), hv, bit_of v d (by omega) hv0 hv1, with_eq h (vb_01 v d) (by omega), Option.bind_some]
    dsimp only
    rw [wrapid (by omega) (by omega), refPut_l0 cs sym hs v hv hv0 hv1 d k (by omega) (by omega) (lay_rgt h (vb_01 v d)) (by omega), bitsD, layA, show n + 1 + d = n + (d + 1) by omega]
theorem refHPut_eq {l : List Int} {n : Int} (zs : List Int) (sym : Int) (hb : Byt l) (hl : l.length ≤ 140737488351232) (h0 : -9223372036854775808 ≤ n) (h1 : n ≤ 9223372036854775807) : Ev (fun k => valiseref04_Put.f k l n zs sym) (hputS l n zs sym) := by
  obtain ⟨kc, hkc⟩ := refCodes_eq zs
  refine ⟨kc + zs.length + 100, fun k hk => ?_⟩
  have hcod : ∀ m, kc ≤ m → valiseref04_Codes.f m zs = some (Hu.codesS zs) := fun m hm => hkc m hm
  obtain ⟨k, rfl⟩ : ∃ m, k = m + 1 := ⟨k - 1, by omega⟩
  show valiseref04_Put.f (k + 1) l n zs sym = _
  unfold valiseref04_Put.f hputS
  rw [right_eq hb (by omega) h0 h1, Option.bind_some]
  have jt : valiseref04_Put.j0 (k + 1) zs sym true l n = some ([], 0, 2) := by rw [valiseref04_Put.j0, if_pos rfl]
  by_cases hr : okR l n = true
  rotate_left
  · rw [if_neg hr, jt, if_neg (fun hh => hr hh.2.1)]
  rw [if_pos hr, lengths_eq zs (by omega), Option.bind_some]
  by_cases h : OKL zs
  rotate_left
  · rw [if_neg (by rw [decide_eq_true_eq]; exact h), jt, if_neg (fun hh => h hh.1)]
  rw [if_pos (decide_eq_true h)]
  by_cases s0 : sym < 0
  · rw [if_pos s0, jt, if_neg (by omega)]
  rw [if_neg s0]
  by_cases s1 : sym ≥ (zs.length : Int)
  · rw [decide_eq_true s1, jt, if_neg (by omega)]
  rw [decide_eq_false s1, if_pos (c := OKL zs ∧ okR l n = true ∧ 0 ≤ sym ∧ sym < (zs.length : Int)) ⟨h, hr, by omega, by omega⟩, valiseref04_Put.j0, if_neg (by decide), hcod k (by omega), Option.bind_some, codesS_eq]
  by_cases hc : Hu.checkS zs = 0 ∨ Hu.checkS zs = 12
  rotate_left
  · rw [if_neg hc, if_neg hc]
    dsimp only
    rw [if_neg (by omega)]
  rw [if_pos hc, if_pos hc]
  dsimp only
  rw [if_pos rfl, if_pos (by omega), if_pos (by omega)]
  by_cases y0 : rd zs sym = 0
  · rw [if_pos y0, if_pos y0]
  obtain ⟨s, rfl⟩ : ∃ s : Nat, sym = (s : Int) := ⟨sym.toNat, by omega⟩
  have hs : s < zs.length := by omega
  have hm := h.2.2 _ (mem_of_getD hs)
  rw [← rdN] at hm
  obtain ⟨a, ea⟩ : ∃ a : Nat, rd zs (s : Int) = (a : Int) := ⟨(rd zs (s : Int)).toNat, by omega⟩
  have hcb := code_bound hc hs ((rdN zs s).symm.trans ea) (by omega) (show a ≤ 15 by omega)
  have hpw : (2 : Nat) ^ a ≤ 2 ^ 15 := Nat.pow_le_pow_right (by omega) (by omega)
  obtain ⟨r1, r2⟩ := (okR_iff hb).1 hr
  obtain ⟨m, rfl⟩ : ∃ m : Nat, n = (m : Int) := ⟨n.toNat, by omega⟩
  rw [Int.toNat_natCast] at r2
  have hmm := r2.2.1
  rw [if_neg y0, if_neg y0, copy_eq (by omega), Option.bind_some, ea]
  dsimp only
  rw [wrapid (by omega) (by omega), refPut_l0 (codesV zs) s (by rw [codesV_len]; omega) _ (codesV_rd zs hs) (by omega) (by omega) a k (by omega) (by omega) r2 (by omega), Int.toNat_natCast, Int.toNat_natCast, Int.toNat_natCast]
  rw [show ((m + a : Nat) : Int) = (m : Int) + (a : Int) by omega]
def CodeAt (l b : List Int) (p i a : Nat) : Prop := ∀ t, t < a → bat b (p + t) = ((codeN l i / 2 ^ (a - 1 - t) % 2 : Nat) : Int)
theorem scan_hit {l : List Int} (hl : OKL l) {b : List Int} {m : Nat} {i a : Nat} (hi : i < l.length) (e : l[i]?.getD 0 = (a : Int)) (h1 : 1 ≤ a) (p : Nat) (hp : p + a ≤ m) (hc : CodeAt l b p i a) :
    ∀ d n, n + d = 15 → n < a → scan l b m d (p + n) (codeN l i / 2 ^ (a - n)) = ((i : Int), ((p + a : Nat) : Int), 0)
  | 0, n, hd, hn => by
    have := hl.2.2 _ (mem_of_getD hi)
    omega
  | d + 1, n, hd, hn => by
    have ha := hl.2.2 _ (mem_of_getD hi)
    have hb := hc n hn
    obtain ⟨L, hL⟩ : ∃ L, n + 1 = L := ⟨_, rfl⟩
    have hd15 : 15 - d = L := by omega
    have hv : 2 * (codeN l i / 2 ^ (a - n)) + (bat b (p + n)).toNat = codeN l i / 2 ^ (a - L) := by
      rw [hb, Int.toNat_natCast, show a - n = (a - L) + 1 by omega, show a - 1 - n = a - L by omega, Nat.pow_succ, ← Nat.div_div_eq_div_mul]
      omega
    rw [scan, hd15, if_neg (by omega), hv]
    by_cases hLa : L = a
    · subst hLa
      obtain ⟨g1, g2, g3⟩ := code_symOf l h1 (by omega) hi e
      rw [Nat.sub_self, Nat.pow_zero, Nat.div_one, if_pos g2, g3, show p + n + 1 = p + L by omega]
    · have hlt : L < a := by omega
      have hcx := cX_eq l (show 1 ≤ L by omega)
      have hg := first_grows l (show 1 ≤ L by omega) (a - L) (by omega)
      have hge := code_ge l (q := i) (by omega)
      rw [e, Int.toNat_natCast] at hge
      rw [show L + (a - L) = a by omega, ← hcx] at hg
      have hno : ¬ codeN l i / 2 ^ (a - L) < cX l L := by
        rw [Nat.not_lt, Nat.le_div_iff_mul_le (Nat.two_pow_pos _)]
        omega
      have hfr : ¬ frmC l L = frmC l 15 := by
        have h3 := frmC_mono l (show L ≤ a - 1 by omega)
        have h4 := frmC_mono l (show a ≤ 15 by omega)
        have h5 := frmC_pred l h1
        have h6 : 0 < l.count (a : Int) := List.count_pos_iff.2 (by rw [← e]; exact mem_of_getD hi)
        omega
      rw [if_neg hno, if_neg hfr, show p + n + 1 = p + L by omega]
      exact scan_hit hl hi e h1 p hp hc d L (by omega) hlt
theorem scan_code {l : List Int} (hl : OKL l) {b : List Int} {m : Nat} {i a : Nat} (hi : i < l.length) (e : l[i]?.getD 0 = (a : Int)) (h1 : 1 ≤ a) (hcb : codeN l i < 2 ^ a) (p : Nat) (hp : p + a ≤ m) (hc : CodeAt l b p i a) :
    scan l b m 15 p 0 = ((i : Int), ((p + a : Nat) : Int), 0) := by
  have h := scan_hit hl hi e h1 p hp hc 15 0 (by omega) (by omega)
  rw [Nat.sub_zero, Nat.div_eq_of_lt hcb] at h
  exact h
theorem bitsD_nat (c : Nat) (d j : Nat) (hj : j < d) : (bitsD ((c : Nat) : Int) d).getD j 0 = ((c / 2 ^ (d - 1 - j) % 2 : Nat) : Int) := by
  rw [bitsD_get _ d j hj]
  unfold vb
  rw [Int.natCast_emod, Int.natCast_ediv]
  simp
end Go.Proofs.YtgflkkjhckcipaaDoor.Pr

-- YtgflkkjhckcipaaDoorIf33
namespace Go.Proofs.YtgflkkjhckcipaaDoor.Pr
open Go.RowKit Go.Shelf Go.Proofs.YtgflkkjhckcipaaDoorW.PrintWords Go.Proofs.YtgflkkjhckcipaaDoorW.PrintLast Go.Proofs.YtgflkkjhckcipaaDoorW.PrintMore
set_option linter.unusedVariables false
set_option linter.unusedSimpArgs false
open Go.Proofs.YtgflkkjhckcipaaDoor.Pg
def endP (l : List Int) : Nat → List Nat → Nat
  | p, [] => p
  | p, s :: ss => endP l (p + (l[s]?.getD 0).toNat) ss
def Spell (l b : List Int) : Nat → List Nat → Prop
  | _, [] => True
  | p, s :: ss => (s < l.length ∧ 0 < l[s]?.getD 0 ∧ CodeAt l b p s (l[s]?.getD 0).toNat) ∧ Spell l b (p + (l[s]?.getD 0).toNat) ss
theorem endP_ge (l : List Int) : ∀ p ss, p ≤ endP l p ss
  | p, [] => Nat.le_refl _
  | p, s :: ss => by have := endP_ge l (p + (l[s]?.getD 0).toNat) ss; rw [endP]; omega
theorem endP_app (l : List Int) : ∀ p ss s, endP l p (ss ++ [s]) = endP l p ss + (l[s]?.getD 0).toNat
  | p, [], s => rfl
  | p, x :: ss, s => by rw [List.cons_append, endP, endP]; exact endP_app l _ ss s
theorem spell_app {l b : List Int} : ∀ p ss s, Spell l b p ss → s < l.length → 0 < l[s]?.getD 0 → CodeAt l b (endP l p ss) s (l[s]?.getD 0).toNat → Spell l b p (ss ++ [s])
  | p, [], s, _, h1, h2, h3 => ⟨⟨h1, h2, h3⟩, trivial⟩
  | p, x :: ss, s, ⟨h, h'⟩, h1, h2, h3 => ⟨h, spell_app _ ss s h' h1 h2 h3⟩
theorem spell_same {l b b' : List Int} : ∀ p ss, (∀ k, k < endP l p ss → bat b' k = bat b k) → Spell l b p ss → Spell l b' p ss
  | p, [], _, _ => trivial
  | p, s :: ss, hk, ⟨⟨h1, h2, h3⟩, h4⟩ => ⟨⟨h1, h2, fun t ht => by
      have := endP_ge l (p + (l[s]?.getD 0).toNat) ss
      rw [hk _ (by rw [endP]; omega)]
      exact h3 t ht⟩, spell_same _ ss hk h4⟩
theorem endP_le (l : List Int) (hl : ∀ x ∈ l, 0 ≤ x ∧ x ≤ 15) : ∀ p ss, endP l p ss ≤ p + 15 * ss.length
  | p, [] => by rw [endP]; omega
  | p, s :: ss => by
    have h := endP_le l hl (p + (l[s]?.getD 0).toNat) ss
    have : (l[s]?.getD 0) ≤ 15 := by
      by_cases hs : s < l.length
      · exact (hl _ (mem_of_getD hs)).2
      · rw [List.getElem?_eq_none (by omega)]; decide
    rw [endP, List.length_cons]; omega
theorem Ev.bind {α β : Type} {g : Nat → Option α} {h : Nat → α → Option β} {a : α} {r : β} (hg : Ev g a) (hh : Ev (fun k => h k a) r) : Ev (fun k => (g k).bind (h k)) r := by
  obtain ⟨k1, h1⟩ := hg
  obtain ⟨k2, h2⟩ := hh
  refine ⟨k1 + k2, fun k hk => ?_⟩
  show (g k).bind (h k) = _
  rw [h1 k (by omega)]
  exact h2 k (by omega)
theorem Ev.of {α : Type} {g : Nat → Option α} {r : α} (h : ∀ k, g k = some r) : Ev g r := ⟨0, fun k _ => h k⟩
theorem laid_l0 (v : Int) (hv0 : 0 ≤ v) (hv1 : v ≤ 1000) (c : Nat) (hc : c ≤ 20) : ∀ (d i k : Nat) {l : List Int} {n : Nat}, i + d = c → d < k → Rgt l n → n + d ≤ 1000000 →
    valiselaw09_laid.l0 k v (c : Int) (i : Int) l (n : Int) = some (layA l n (bitsV v i d), ((n + d : Nat) : Int))
  | 0, i, k, l, n, hi, hk, h, hn => by
    obtain ⟨k, rfl⟩ : ∃ m, k = m + 1 := ⟨k - 1, by omega⟩
    rw [valiselaw09_laid.l0, if_neg (by omega)]
    rfl
  | d + 1, i, k, l, n, hi, hk, h, hn => by
    obtain ⟨k, rfl⟩ : ∃ m, k = m + 1 := ⟨k - 1, by omega⟩
    rw [valiselaw09_laid.l0, if_pos (by omega), if_pos (by omega), bit_of v i (by omega) hv0 (by omega), with_eq h (vb_01 v i) (by omega), Option.bind_some]
    dsimp only
    rw [show wrap64 ((i : Int) + 1) = ((i + 1 : Nat) : Int) by rw [wrap64_id (by omega) (by omega)]; omega, laid_l0 v hv0 hv1 c hc d (i + 1) k (by omega) (by omega) (lay_rgt h (vb_01 v i)) (by omega), bitsV, layA, show n + 1 + d = n + (d + 1) by omega]
theorem laid_ev {l : List Int} {n : Nat} (h : Rgt l n) (hn : n ≤ 100000) (v : Int) (hv0 : 0 ≤ v) (hv1 : v ≤ 1000) (c : Nat) (hc : c ≤ 20) (m : Nat) (hm : n + c = m) : Ev (fun k => valiselaw09_laid.f k l (n : Int) v (c : Int)) (layA l n (bitsV v 0 c), (m : Int)) := by
  subst hm
  exact ⟨c + 1, fun k hk => laid_l0 v hv0 hv1 c hc c 0 k (by omega) (by omega) h (by omega)⟩
theorem put_ev {b : List Int} {n : Nat} (h : Rgt b n) (hn : n ≤ 1000000) {zs : List Int} (hc : Hu.checkS zs = 0) {s a : Nat} (hs : s < zs.length) (e : zs[s]?.getD 0 = (a : Int)) (ha : 1 ≤ a) :
    Ev (fun k => valiseref04_Put.f k b (n : Int) zs (s : Int)) (layA b n (bitsD ((codeN zs s : Nat) : Int) a), ((n + a : Nat) : Int), 0) := by
  have hl := h.2.1
  have hp := refHPut_eq (l := b) (n := (n : Int)) zs (s : Int) h.1 (by omega) (by omega) (by omega)
  have er : rd zs (s : Int) = (a : Int) := (rdN zs s).trans e
  unfold hputS at hp
  rw [if_pos ⟨okl_of_check (.inl hc), okR_nat h, by omega, by omega⟩, if_pos (.inl hc), if_neg (by omega), er, Int.toNat_natCast, Int.toNat_natCast, Int.toNat_natCast, show (n : Int) + (a : Int) = ((n + a : Nat) : Int) by omega] at hp
  exact hp
theorem layA_old {l : List Int} {n : Nat} (h : Rgt l n) {bs : List Int} (hb : ∀ b ∈ bs, b = 0 ∨ b = 1) {k : Nat} (hk : k < n) : bat (layA l n bs) k = bat l k := by rw [layA_bat h hb, if_neg (by omega)]
theorem code_laid {b : List Int} {n : Nat} (h : Rgt b n) (zs : List Int) (s a : Nat) : CodeAt zs (layA b n (bitsD ((codeN zs s : Nat) : Int) a)) n s a := by
  intro t ht
  rw [layA_bat h (bitsD_01 _ _), bitsD_len, if_pos (by omega), Nat.add_sub_cancel_left]
  exact bitsD_nat _ _ _ ht
theorem put_rgt {b : List Int} {n : Nat} (h : Rgt b n) (zs : List Int) (s a : Nat) : Rgt (layA b n (bitsD ((codeN zs s : Nat) : Int) a)) (n + a) := by
  have := layA_rgt h (bitsD_01 ((codeN zs s : Nat) : Int) a)
  rwa [bitsD_len] at this
def runL : List Int := [4, 4, 4, 4, 4, 4, 4, 4, 4, 4, 4, 4, 4, 4, 4, 4, 0, 0, 0]
theorem run_check : Hu.checkS runL = 0 := by decide +kernel
def hdrB : Nat → List Int
  | 0 => layA (layA (layA (layA [] 0 (bitsV 1 0 1)) 1 (bitsV 2 0 2)) 3 (bitsV 0 0 10)) 13 (bitsV 15 0 4)
  | i + 1 => layA (hdrB i) (17 + 3 * i) (bitsV (runL.getD (orderL.getD i 0) 0) 0 3)
theorem hdr_rgt1 : Rgt (layA [] 0 (bitsV 1 0 1)) 1 := layA_rgt (n := 0) rgt_nil (bitsV_01 _ _ _)
theorem hdr_rgt2 : Rgt (layA (layA [] 0 (bitsV 1 0 1)) 1 (bitsV 2 0 2)) 3 := layA_rgt (n := 1) hdr_rgt1 (bitsV_01 _ _ _)
theorem hdr_rgt3 : Rgt (layA (layA (layA [] 0 (bitsV 1 0 1)) 1 (bitsV 2 0 2)) 3 (bitsV 0 0 10)) 13 := layA_rgt (n := 3) hdr_rgt2 (bitsV_01 _ _ _)
theorem hdr_rgt : ∀ i, Rgt (hdrB i) (17 + 3 * i)
  | 0 => layA_rgt (n := 13) hdr_rgt3 (bitsV_01 _ _ _)
  | i + 1 => by
    have h := layA_rgt (hdr_rgt i) (bitsV_01 (runL.getD (orderL.getD i 0) 0) 0 3)
    rw [bitsV_len] at h
    exact h
structure Lens (all : List Int) (i : Nat) (b : List Int) : Prop where
  rgt : Rgt b (74 + 4 * i)
  head : ∀ k, k < 74 → bat b k = bat (hdrB 19) k
  code : ∀ j, j < i → CodeAt runL b (74 + 4 * j) (all.getD j 0).toNat 4
theorem Lens.zero (all : List Int) : Lens all 0 (hdrB 19) := ⟨hdr_rgt 19, fun _ _ => rfl, fun j hj => by omega⟩
theorem run_get {s : Nat} (hs : s < 16) : runL[s]?.getD 0 = ((4 : Nat) : Int) := by
  have h : ∀ s : Nat, s < 16 → runL[s]?.getD 0 = ((4 : Nat) : Int) := by decide
  exact h s hs
theorem Lens.put {all : List Int} {i : Nat} {b : List Int} (h : Lens all i b) : Lens all (i + 1) (layA b (74 + 4 * i) (bitsD ((codeN runL (all.getD i 0).toNat : Nat) : Int) 4)) := by
  refine ⟨put_rgt h.rgt _ _ _, fun k hk => (layA_old h.rgt (bitsD_01 _ _) (by omega)).trans (h.head k hk), fun j hj => ?_⟩
  by_cases e : j = i
  · subst e
    exact code_laid h.rgt _ _ _
  intro t ht
  rw [layA_old h.rgt (bitsD_01 _ _) (by omega)]
  exact h.code j (by omega) t ht
structure Data (all lit : List Int) (b : List Int) (m : Nat) (ss : List Nat) : Prop where
  rgt : Rgt b m
  head : ∀ k, k < 74 → bat b k = bat (hdrB 19) k
  code : ∀ j, j < 258 → CodeAt runL b (74 + 4 * j) (all.getD j 0).toNat 4
  spell : Spell lit b 1106 ss
  end_ : endP lit 1106 ss = m
theorem Data.zero {all lit b : List Int} (h : Lens all 258 b) : Data all lit b 1106 [] := ⟨h.rgt, h.head, h.code, trivial, rfl⟩
theorem Data.put {all lit b : List Int} {m : Nat} {ss : List Nat} (h : Data all lit b m ss) {s a : Nat} (hs : s < lit.length) (e : lit[s]?.getD 0 = (a : Int)) (ha : 1 ≤ a) : Data all lit (layA b m (bitsD ((codeN lit s : Nat) : Int) a)) (m + a) (ss ++ [s]) := by
  have hge := endP_ge lit 1106 ss
  have he := h.end_
  have ea : (lit[s]?.getD 0).toNat = a := by rw [e, Int.toNat_natCast]
  refine ⟨put_rgt h.rgt _ _ _, fun k hk => (layA_old h.rgt (bitsD_01 _ _) (by omega)).trans (h.head k hk), fun j hj t ht => ?_, ?_, by rw [endP_app, he, ea]⟩
  · rw [layA_old h.rgt (bitsD_01 _ _) (by omega)]
    exact h.code j hj t ht
  refine spell_app 1106 ss s (spell_same 1106 ss (fun k hk => layA_old h.rgt (bitsD_01 _ _) (by omega)) h.spell) hs (by rw [e]; omega) ?_
  rw [he, ea]
  exact code_laid h.rgt _ _ _
theorem sym_code {z b : List Int} (hc : Hu.checkS z = 0) {s a p : Nat} (hs : s < z.length) (e : z[s]?.getD 0 = (a : Int)) (ha : 1 ≤ a) (hp : p + a ≤ 8 * b.length) (hk : CodeAt z b p s a) : symM b (some z) p = .ok ((s : Int), p + a) := by
  have hz := okl_of_check (.inl hc)
  have h15 := hz.2.2 _ (mem_of_getD hs)
  have h := scan_code hz hs e ha (code_bound (.inl hc) hs e ha (by omega)) p hp hk
  unfold symM
  dsimp only
  rw [h]
  dsimp only
  rw [if_pos rfl, Int.toNat_natCast]
theorem getV_agree {l l' : List Int} {p : Nat} : ∀ {n : Nat}, (∀ k, k < p + n → bat l k = bat l' k) → getV l p n = getV l' p n
  | 0, _ => rfl
  | n + 1, h => by rw [getV, getV, getV_agree (fun k hk => h k (by omega)), h _ (by omega)]
theorem bits_agree {l l' : List Int} {p n : Nat} (h : ∀ k, k < p + n → bat l k = bat l' k) (h1 : p + n ≤ 8 * l.length) (h2 : p + n ≤ 8 * l'.length) : bitsM l p n = bitsM l' p n := by
  unfold bitsM
  rw [if_pos h1, if_pos h2, getV_agree h]
theorem codes_agree {l l' : List Int} {m : Nat} (h : ∀ k, k < m → bat l k = bat l' k) (h1 : m ≤ 8 * l.length) (h2 : m ≤ 8 * l'.length) : ∀ d i p z, p + 3 * d ≤ m → codesM l d i p z = codesM l' d i p z
  | 0, i, p, z, _ => by rw [codesM, codesM]
  | d + 1, i, p, z, hp => by
    rw [codesM_b, codesM_b, bits_agree (l := l) (l' := l') (p := p) (n := 3) (fun k hk => h k (by omega)) (by omega) (by omega)]
    unfold bnd
    split
    · rfl
    · next x hx =>
      have := bitsM_ok (show bitsM l' p 3 = .ok (x.1, x.2) from hx)
      exact codes_agree h h1 h2 d (i + 1) x.2 _ (by omega)
theorem hdr_len : (hdrB 19).length = 10 := by have := (hdr_rgt 19).2.1; omega
theorem hdr_codes : codesM (hdrB 19) 19 0 17 (List.replicate 19 0) = .ok (runL, 74) := by kernel_rfl
theorem hdr_bits : bitsM (hdrB 19) 0 1 = .ok (1, 1) ∧ bitsM (hdrB 19) 1 2 = .ok (2, 3) ∧ bitsM (hdrB 19) 3 5 = .ok (0, 8) ∧ bitsM (hdrB 19) 8 5 = .ok (0, 13) ∧ bitsM (hdrB 19) 13 4 = .ok (15, 17) := ⟨by kernel_rfl, by kernel_rfl, by kernel_rfl, by kernel_rfl, by kernel_rfl⟩
theorem lengths_read {all b : List Int} (hl : all.length = 258) (hall : ∀ j, j < 258 → 0 ≤ all.getD j 0 ∧ all.getD j 0 ≤ 15) (hb : 1106 ≤ 8 * b.length) (hc : ∀ j, j < 258 → CodeAt runL b (74 + 4 * j) (all.getD j 0).toNat 4) : ∀ d i k, i + d = 258 → d < k → lengthsM b runL 258 k (74 + 4 * i) (all.take i) = .ok (all, 1106)
  | 0, i, 0, hi, hk => by omega
  | 0, i, k + 1, hi, hk => by
    obtain rfl : i = 258 := by omega
    rw [lengthsM_b, if_neg (by rw [List.length_take]; omega), List.take_of_length_le (by omega)]
  | d + 1, i, 0, hi, hk => by omega
  | d + 1, i, k + 1, hi, hk => by
    have h15 := hall i (by omega)
    obtain ⟨s, hs⟩ : ∃ s : Nat, all.getD i 0 = (s : Int) := ⟨(all.getD i 0).toNat, by omega⟩
    have hci := hc i (by omega)
    rw [hs, Int.toNat_natCast] at hci
    have hsym := sym_code run_check (show s < runL.length by show s < 19; omega) (run_get (by omega)) (by omega) (by omega) hci
    have h0 : bitsM b (74 + 4 * i + 4) (extraN (s : Int)) = .ok (0, 74 + 4 * (i + 1)) := by
      have : extraN (s : Int) = 0 := by unfold extraN; rw [if_neg (by omega), if_neg (by omega), if_neg (by omega)]
      rw [this]
      unfold bitsM
      rw [if_pos (by omega)]
      rfl
    have ht : takeM (all.take i) (s : Int) 0 258 = .ok (all.take (i + 1)) := by
      unfold takeM
      rw [if_neg (by omega)]
      dsimp only
      simp only [if_neg (show ¬ (s : Int) = 16 by omega), if_neg (show ¬ (s : Int) = 17 by omega), if_neg (show ¬ (s : Int) = 18 by omega)]
      rw [if_neg (by rw [List.length_take]; omega)]
      rw [List.take_add_one, List.getElem?_eq_getElem (by omega)]
      have e : all[i]'(by omega) = (s : Int) := by rw [← hs, List.getD_eq_getElem?_getD, List.getElem?_eq_getElem (by omega)]; rfl
      rw [e]
      rfl
    rw [lengthsM_b, if_pos (by rw [List.length_take]; omega), hsym]
    unfold bnd
    dsimp only
    rw [h0]
    dsimp only
    rw [ht]
    exact lengths_read hl hall hb hc d (i + 1) k (by omega) (by omega)
theorem symbols_read {lit b : List Int} (hc : Hu.checkS lit = 0) (hl : lit.length = 257) (h256 : lit[256]?.getD 0 = 1) : ∀ (ss : List Nat) (p k : Nat) (out : List Int), (∀ s ∈ ss, s < 256) → Spell lit b p (ss ++ [256]) → endP lit p (ss ++ [256]) ≤ 8 * b.length → ss.length < k → out.length + ss.length ≤ 60000 → symbolsM b 65536 lit none k p out = .ok (endP lit p (ss ++ [256]), out ++ ss.map (fun (s : Nat) => (s : Int)))
  | ss, p, 0, out, _, _, _, hk, _ => by omega
  | [], p, k + 1, out, _, hs, he, _, _ => by
    obtain ⟨⟨h1, h2, h3⟩, _⟩ := hs
    rw [h256] at h3
    have he2 : p + 1 ≤ 8 * b.length := by
      have : endP lit p ([] ++ [256]) = p + (lit[256]?.getD 0).toNat := rfl
      rw [this, h256] at he
      exact he
    have hsym := sym_code hc h1 h256 (Nat.le_refl _) he2 h3
    rw [symbolsM_b, hsym]
    unfold bnd
    dsimp only
    rw [if_pos (by decide)]
    show Except.ok (p + 1, out) = .ok (p + (lit[256]?.getD 0).toNat, out ++ [])
    rw [h256, List.append_nil]
    rfl
  | s :: ss, p, k + 1, out, hlt, hs, he, hk, ho => by
    obtain ⟨⟨h1, h2, h3⟩, h4⟩ := hs
    have hs256 := hlt s (by simp)
    obtain ⟨a, ea⟩ : ∃ a : Nat, lit[s]?.getD 0 = (a : Int) := ⟨(lit[s]?.getD 0).toNat, by omega⟩
    rw [ea, Int.toNat_natCast] at h3 h4
    have he2 : endP lit p (s :: ss ++ [256]) = endP lit (p + a) (ss ++ [256]) := by
      show endP lit (p + (lit[s]?.getD 0).toNat) (ss ++ [256]) = _
      rw [ea, Int.toNat_natCast]
    rw [he2] at he ⊢
    have hge := endP_ge lit (p + a) (ss ++ [256])
    have hsym := sym_code hc h1 ea (by omega) (by omega) h3
    rw [List.length_cons] at hk ho
    rw [symbolsM_b, hsym]
    unfold bnd
    dsimp only
    rw [if_neg (by omega), if_neg (by omega), if_neg (by omega), symbols_read hc hl h256 ss (p + a) k (out ++ [(s : Int)]) (fun x hx => hlt x (by simp [hx])) h4 he (by omega) (by rw [List.length_append, List.length_singleton]; omega)]
    simp
theorem own_read {lit b : List Int} {m : Nat} {ss : List Nat} (hc : Hu.checkS lit = 0) (hl : lit.length = 257) (h256 : lit[256]?.getD 0 = 1) (h : Data (lit ++ [0]) lit b m (ss ++ [256])) (hlt : ∀ s ∈ ss, s < 256) (hn : ss.length ≤ 300) :
    inflM b 65536 = .ok (b.length, ss.map (fun (s : Nat) => (s : Int))) := by
  have hok := okl_of_check (.inl hc)
  have hlen := h.rgt.2.1
  have hge := endP_ge lit 1106 (ss ++ [256])
  have hm : endP lit 1106 (ss ++ [256]) ≤ 8 * b.length := by rw [h.end_]; omega
  have hb : 1106 ≤ 8 * b.length := by omega
  have hall : ∀ j, j < 258 → 0 ≤ (lit ++ [0]).getD j 0 ∧ (lit ++ [0]).getD j 0 ≤ 15 := by
    intro j hj
    by_cases e : j < 257
    · rw [List.getD_eq_getElem?_getD, List.getElem?_append_left (by omega)]
      exact hok.2.2 _ (mem_of_getD (by omega))
    obtain rfl : j = 257 := by omega
    rw [List.getD_eq_getElem?_getD, List.getElem?_append_right (by omega), hl]
    simp
  obtain ⟨b1, b2, b3, b4, b5⟩ := hdr_bits
  have ag : ∀ p n, p + n ≤ 74 → bitsM b p n = bitsM (hdrB 19) p n := fun p n hp => bits_agree (fun k hk => h.head k (by omega)) (by omega) (by rw [hdr_len]; omega)
  rw [← ag _ _ (by omega)] at b1 b2 b3 b4 b5
  have hcod : codesM b 19 0 17 (List.replicate 19 0) = .ok (runL, 74) := by rw [codes_agree (m := 74) h.head (by omega) (by rw [hdr_len]; omega) 19 0 17 _ (by omega)]; exact hdr_codes
  have hL := lengths_read (all := lit ++ [0]) (by rw [List.length_append, hl]; rfl) hall hb h.code 258 0 (8 * b.length + 1) (by omega) (by omega)
  have hH : headerM b (8 * b.length + 1) 3 = .ok (lit, [0], 1106) := by
    rw [headerM_b, b3]
    unfold bnd
    dsimp only
    rw [b4]
    dsimp only
    rw [if_neg (by decide), b5]
    dsimp only
    rw [show (4 + (15 : Int).toNat) = 19 from rfl, hcod]
    dsimp only
    rw [show (257 + (0 : Int).toNat + (1 + (0 : Int).toNat)) = 258 from rfl, show lengthsM b runL 258 (8 * b.length + 1) 74 [] = _ from hL]
    dsimp only
    rw [show 257 + (0 : Int).toNat = lit.length by rw [hl]; rfl, List.take_left, List.drop_left]
  have hnew : Hu.newS lit = 0 := by
    unfold Hu.newS
    rw [hc, if_neg (by decide), if_neg (by simp)]
  have hg : lit.getD 256 0 = 1 := by rw [List.getD_eq_getElem?_getD]; exact h256
  have hS := symbols_read hc hl h256 ss 1106 (8 * b.length + 1) [] hlt h.spell hm (by omega) (by simp; omega)
  have hD : dynamicM b 65536 (8 * b.length + 1) 3 [] = .ok (m, ss.map (fun (s : Nat) => (s : Int))) := by
    rw [dynamicM_b, hH]
    unfold bnd
    dsimp only
    rw [hg, if_neg (by decide), if_neg (by rw [hnew]; simp), if_pos (by decide), hS, h.end_, List.nil_append]
  have hB : blockM b 65536 (8 * b.length + 1) 0 [] = .ok (true, m, ss.map (fun (s : Nat) => (s : Int))) := by
    rw [blockM_b, b1]
    unfold bnd
    dsimp only
    rw [b2]
    dsimp only
    unfold typedM
    rw [if_neg (by decide), if_neg (by decide), if_pos rfl, hD]
    rfl
  unfold inflM
  rw [if_neg (by decide), decodeM, hB]
  show Except.ok ((m + 7) / 8, _) = _
  rw [← hlen]
end Go.Proofs.YtgflkkjhckcipaaDoor.Pr

-- YtgflkkjhckcipaaDoorPureInflateCodes
namespace Go.Proofs.YtgflkkjhckcipaaDoor.PureInflateCodes
open Go.RowKit Go.Proofs.YtgflkkjhckcipaaDoor.Pg Go.Proofs.YtgflkkjhckcipaaDoorW.PrintWords Go.Proofs.YtgflkkjhckcipaaDoorW.PrintLast
set_option linter.unusedVariables false
set_option linter.unusedSimpArgs false
theorem dec_ok {l : List Int} (hb : Pr.Byt l) (hl : l.length ≤ 1000000) {most : Int} {n : Nat} {ys : List Int} (h : Pr.inflM l most = .ok (n, ys)) : inflate_Decode.f l most = some (ys, (n : Int), 0) := by
  unfold inflate_Decode.f
  rw [if_pos ⟨Pr.bytB_iff.2 ⟨hb, hl⟩, by rw [h]; rfl⟩]
  unfold Pr.decS
  rw [h]
theorem and255 (x : Int) : ∃ s : Nat, s < 256 ∧ Go.bits .and .i64 x 255 = (s : Int) := by
  have h255 : (BitVec.ofInt 64 255).toNat = 255 := by decide
  have hle : (BitVec.ofInt 64 x &&& BitVec.ofInt 64 255).toNat ≤ 255 := by
    rw [BitVec.toNat_and, h255]
    exact Nat.and_le_right
  refine ⟨(BitVec.ofInt 64 x &&& BitVec.ofInt 64 255).toNat, by omega, ?_⟩
  show IntKind.i64.wrap ((BitVec.ofInt 64 x &&& BitVec.ofInt 64 255).toNat : Int) = _
  rw [IntKind.wrap_i64]
  omega
theorem wnext (i : Nat) (h : i < 1000000) : wrap64 ((i : Int) + 1) = ((i + 1 : Nat) : Int) := by rw [Pr.wrap64_id (by omega) (by omega)]; omega
theorem str_app (a b : List Int) : strOfNums a ++ strOfNums b = strOfNums (a ++ b) := by
  apply ByteArray.ext
  rw [ByteArray.data_append]
  unfold strOfNums
  simp
theorem Ev_congr {α : Type} {g g' : Nat → Option α} {r : α} (h : ∀ k, g k = g' k) (hg : Pr.Ev g' r) : Pr.Ev g r := by
  obtain ⟨k, hk⟩ := hg
  exact ⟨k, fun k' h2 => (h k').trans (hk k' h2)⟩
theorem lives_ev : Pr.Ev (fun _ => (valiselaw09_lives.f).bind fun t => some t) true := Pr.Ev.of fun _ => by rw [valiselaw09_lives.true_]; rfl
section
variable {lit : List Int} (hl : lit.length = 257) (hc : Hu.checkS lit = 0) (h256 : lit[256]?.getD 0 = 1) (syms : List Int) (hn : syms.length ≤ 300)
include hl hc h256 hn
theorem l4_ev : ∀ (d i : Nat) (b : List Int) (m : Nat) (ss : List Nat), i + d = syms.length → Pr.Data (lit ++ [0]) lit b m ss → (∀ s ∈ ss, s < 256) → ss.length ≤ i → Pr.Ev (fun k => valiselaw09_InflateCodes.l4 k syms lit (strOfNums (ss.map fun (s : Nat) => (s : Int))) (i : Int) b (m : Int)) true
  | 0, i, b, m, ss, hi, h, hs, hlen => by
    have hok := Pr.okl_of_check (.inl hc)
    have hm := Pr.endP_le lit hok.2.2 1106 ss
    rw [h.end_] at hm
    refine Pr.Ev.succ (g' := fun k => (valiseref04_Put.f k b (m : Int) lit 256).bind fun bt322 => ((inflate_Decode.f bt322.1 65536).bind fun bt327 => (if (strOfNums bt327.1).toList = (strOfNums (ss.map fun (s : Nat) => (s : Int))).toList then (if bt327.2.1 = (bt322.1.length : Int) then (if bt327.2.2 = 0 then ((valiselaw09_lives.f).bind fun t332 => (some t332)) else (some false)) else (some false)) else (some false)))) (fun k => by show valiselaw09_InflateCodes.l4 (k + 1) _ _ _ _ _ _ = _; rw [valiselaw09_InflateCodes.l4, if_neg (by omega)]) ?_
    refine Pr.Ev.bind (Pr.put_ev (s := 256) (a := 1) h.rgt (by omega) hc (by omega) h256 (Nat.le_refl _)) ?_
    have hD := h.put (s := 256) (a := 1) (by omega) h256 (Nat.le_refl _)
    have hr := Pr.own_read hc hl h256 hD hs (by omega)
    have hlB := hD.rgt.2.1
    have hd := dec_ok hD.rgt.1 (by omega) hr
    refine Pr.Ev.of fun k => ?_
    dsimp only
    rw [hd]
    simp [valiselaw09_lives.true_]
  | d + 1, i, b, m, ss, hi, h, hs, hlen => by
    have hok := Pr.okl_of_check (.inl hc)
    have hm := Pr.endP_le lit hok.2.2 1106 ss
    rw [h.end_] at hm
    obtain ⟨s, hs2, e⟩ := and255 (rd syms (i : Int))
    have er : rd lit (s : Int) = lit[s]?.getD 0 := Pr.rdN lit s
    by_cases hz : rd lit (s : Int) > 0
    · obtain ⟨a, ea⟩ : ∃ a : Nat, lit[s]?.getD 0 = (a : Int) := ⟨(lit[s]?.getD 0).toNat, by omega⟩
      refine Pr.Ev.succ (g' := fun k => (valiseref04_Put.f k b (m : Int) lit (s : Int)).bind fun bt314 => ((some (([(s : Int) % 256] : List Int) : List Int)).bind fun y319 => (if (strOfNums (ss.map fun (s : Nat) => (s : Int))).size + (strOfNums y319).size ≤ 9223372036854775807 then (valiselaw09_InflateCodes.l4 k syms lit (strOfNums (ss.map fun (s : Nat) => (s : Int)) ++ (strOfNums y319)) (wrap64 ((i : Int) + 1)) bt314.1 bt314.2.1) else (none)))) (fun k => by show valiselaw09_InflateCodes.l4 (k + 1) _ _ _ _ _ _ = _; rw [valiselaw09_InflateCodes.l4, if_pos (by omega), if_pos (by omega), e, if_pos (by omega), if_pos (by omega), if_pos hz]) ?_
      refine Pr.Ev.bind (Pr.put_ev h.rgt (by omega) hc (by omega) ea (by omega)) ?_
      have ih := l4_ev d (i + 1) _ _ (ss ++ [s]) (by omega) (h.put (by omega) ea (by omega)) (fun x hx => (List.mem_append.1 hx).elim (hs x) (fun h2 => by rw [List.mem_singleton.1 h2]; exact hs2)) (by rw [List.length_append, List.length_singleton]; omega)
      refine Ev_congr (fun k => ?_) ih
      dsimp only
      rw [Option.bind_some, if_pos (by rw [strOfNums_size, strOfNums_size, List.length_map, List.length_singleton]; omega), wnext i (by omega), str_app, show (s : Int) % 256 = (s : Int) by omega, List.map_append]
      rfl
    · refine Pr.Ev.succ (g' := fun k => valiselaw09_InflateCodes.l4 k syms lit (strOfNums (ss.map fun (s : Nat) => (s : Int))) (wrap64 ((i : Int) + 1)) b (m : Int)) (fun k => by show valiselaw09_InflateCodes.l4 (k + 1) _ _ _ _ _ _ = _; rw [valiselaw09_InflateCodes.l4, if_pos (by omega), if_pos (by omega), e, if_pos (by omega), if_pos (by omega), if_neg hz]) ?_
      rw [wnext i (by omega)]
      exact l4_ev d (i + 1) b m ss (by omega) h hs (by omega)
theorem l3_ev : ∀ (d i : Nat) (b : List Int), i + d = 257 → Pr.Lens (lit ++ [0]) i b → Pr.Ev (fun k => valiselaw09_InflateCodes.l3 k syms lit Pr.runL (i : Int) b ((74 + 4 * i : Nat) : Int)) true
  | 0, i, b, hi, h => by
    obtain rfl : i = 257 := by omega
    have e0 : (lit ++ [0]).getD 257 0 = 0 := by rw [List.getD_eq_getElem?_getD, List.getElem?_append_right (by omega), hl]; rfl
    refine Pr.Ev.succ (g' := fun k => (valiseref04_Put.f k b ((74 + 4 * 257 : Nat) : Int) Pr.runL 0).bind fun bt307 => (valiselaw09_InflateCodes.l4 k syms lit (⟨#[]⟩ : ByteArray) 0 bt307.1 bt307.2.1)) (fun k => by show valiselaw09_InflateCodes.l3 (k + 1) _ _ _ _ _ _ = _; rw [valiselaw09_InflateCodes.l3, if_neg (by omega)]) ?_
    refine Pr.Ev.bind (Pr.put_ev (s := 0) (a := 4) h.rgt (by omega) Pr.run_check (by decide) (Pr.run_get (by omega)) (by omega)) ?_
    have hL := h.put
    rw [e0] at hL
    exact l4_ev hl hc h256 syms hn syms.length 0 _ 1106 [] (by omega) (Pr.Data.zero hL) (fun _ h => by cases h) (Nat.le_refl _)
  | d + 1, i, b, hi, h => by
    have hok := Pr.okl_of_check (.inl hc)
    have h15 := hok.2.2 _ (Pr.mem_of_getD (l := lit) (k := i) (by omega))
    obtain ⟨s, hs⟩ : ∃ s : Nat, lit[i]?.getD 0 = (s : Int) := ⟨(lit[i]?.getD 0).toNat, by omega⟩
    have er : rd lit (i : Int) = (s : Int) := (Pr.rdN lit i).trans hs
    have ea : (lit ++ [0]).getD i 0 = (s : Int) := by rw [List.getD_eq_getElem?_getD, List.getElem?_append_left (by omega)]; exact hs
    refine Pr.Ev.succ (g' := fun k => (valiseref04_Put.f k b ((74 + 4 * i : Nat) : Int) Pr.runL (s : Int)).bind fun bt302 => (valiselaw09_InflateCodes.l3 k syms lit Pr.runL (wrap64 ((i : Int) + 1)) bt302.1 bt302.2.1)) (fun k => by show valiselaw09_InflateCodes.l3 (k + 1) _ _ _ _ _ _ = _; rw [valiselaw09_InflateCodes.l3, if_pos (by omega), if_pos (by omega), if_pos (by omega), er]) ?_
    refine Pr.Ev.bind (Pr.put_ev (s := s) (a := 4) h.rgt (by omega) Pr.run_check (by show s < 19; omega) (Pr.run_get (by omega)) (by omega)) ?_
    have hL := h.put
    rw [ea, Int.toNat_natCast] at hL
    rw [wnext i (by omega)]
    exact l3_ev d (i + 1) _ (by omega) hL
theorem l2_ev : ∀ (d i : Nat), i + d = 19 → Pr.Ev (fun k => valiselaw09_InflateCodes.l2 k syms lit (([16, 17, 18, 0, 8, 7, 9, 6, 10, 5, 11, 4, 12, 3, 13, 2, 14, 1, 15] : List Int)) Pr.runL (i : Int) (Pr.hdrB i) ((17 + 3 * i : Nat) : Int)) true
  | 0, i, hi => by
    obtain rfl : i = 19 := by omega
    refine Pr.Ev.succ (g' := fun k => valiselaw09_InflateCodes.l3 k syms lit Pr.runL 0 (Pr.hdrB 19) ((17 + 3 * 19 : Nat) : Int)) (fun k => by show valiselaw09_InflateCodes.l2 (k + 1) _ _ _ _ _ _ _ = _; rw [valiselaw09_InflateCodes.l2, if_neg (by omega)]) ?_
    exact l3_ev hl hc h256 syms hn 257 0 _ (by omega) (Pr.Lens.zero _)
  | d + 1, i, hi => by
    have ho : ∀ i : Nat, i < 19 → rd (([16, 17, 18, 0, 8, 7, 9, 6, 10, 5, 11, 4, 12, 3, 13, 2, 14, 1, 15] : List Int)) (i : Int) = ((Pr.orderL.getD i 0 : Nat) : Int) ∧ Pr.orderL.getD i 0 < 19 := by decide
    have hr : ∀ j : Nat, j < 19 → rd Pr.runL (j : Int) = Pr.runL.getD j 0 ∧ 0 ≤ Pr.runL.getD j 0 ∧ Pr.runL.getD j 0 ≤ 1000 := by decide
    obtain ⟨o1, o2⟩ := ho i (by omega)
    obtain ⟨r1, r2, r3⟩ := hr _ o2
    have hlen : ((Pr.runL.length : Nat) : Int) = 19 := rfl
    refine Pr.Ev.succ (g' := fun k => (valiselaw09_laid.f k (Pr.hdrB i) ((17 + 3 * i : Nat) : Int) (Pr.runL.getD (Pr.orderL.getD i 0) 0) 3).bind fun bt297 => (valiselaw09_InflateCodes.l2 k syms lit (([16, 17, 18, 0, 8, 7, 9, 6, 10, 5, 11, 4, 12, 3, 13, 2, 14, 1, 15] : List Int)) Pr.runL (wrap64 ((i : Int) + 1)) bt297.1 bt297.2)) (fun k => by show valiselaw09_InflateCodes.l2 (k + 1) _ _ _ _ _ _ _ = _; rw [valiselaw09_InflateCodes.l2, if_pos (by omega), if_pos (by omega), if_pos (by simp only [List.length_cons, List.length_nil]; omega), o1, if_pos (by omega), if_pos (by rw [hlen]; omega), r1]) ?_
    refine Pr.Ev.bind (Pr.laid_ev (Pr.hdr_rgt i) (by omega) _ r2 r3 3 (by omega) (17 + 3 * (i + 1)) (by omega)) ?_
    rw [wnext i (by omega)]
    exact l2_ev d (i + 1) (by omega)
def runU (i : Nat) : List Int := (List.range 19).map fun j => if j < i then 4 else 0
omit hl hc h256 hn in
theorem runU_set : ∀ i : Nat, i < 16 → (runU i).set i 4 = runU (i + 1) := by decide
theorem l1_ev : ∀ (d i : Nat), i + d = 16 → Pr.Ev (fun k => valiselaw09_InflateCodes.l1 k syms lit (([16, 17, 18, 0, 8, 7, 9, 6, 10, 5, 11, 4, 12, 3, 13, 2, 14, 1, 15] : List Int)) (runU i) (i : Int) (Pr.hdrB 0) 17) true
  | 0, i, hi => by
    obtain rfl : i = 16 := by omega
    refine Pr.Ev.succ (g' := fun k => valiselaw09_InflateCodes.l2 k syms lit (([16, 17, 18, 0, 8, 7, 9, 6, 10, 5, 11, 4, 12, 3, 13, 2, 14, 1, 15] : List Int)) (runU 16) 0 (Pr.hdrB 0) 17) (fun k => by show valiselaw09_InflateCodes.l1 (k + 1) _ _ _ _ _ _ _ = _; rw [valiselaw09_InflateCodes.l1, if_neg (by omega)]) ?_
    rw [show runU 16 = Pr.runL from by decide]
    exact l2_ev hl hc h256 syms hn 19 0 (by omega)
  | d + 1, i, hi => by
    have hlen : (runU i).length = 19 := by unfold runU; rw [List.length_map, List.length_range]
    refine Pr.Ev.succ (g' := fun k => valiselaw09_InflateCodes.l1 k syms lit (([16, 17, 18, 0, 8, 7, 9, 6, 10, 5, 11, 4, 12, 3, 13, 2, 14, 1, 15] : List Int)) ((runU i).set i 4) (wrap64 ((i : Int) + 1)) (Pr.hdrB 0) 17) (fun k => by show valiselaw09_InflateCodes.l1 (k + 1) _ _ _ _ _ _ _ = _; rw [valiselaw09_InflateCodes.l1, if_pos (by omega), if_pos (by omega), if_pos (by omega), Int.toNat_natCast]) ?_
    rw [wnext i (by omega), runU_set i (by omega)]
    exact l1_ev d (i + 1) (by omega)
end
theorem l0_ev (lens syms : List Int) (hlens : lens.length ≤ 256) (hn : syms.length ≤ 300) : ∀ (d i : Nat) (x5 : List Int), i + d = lens.length → x5.length = 257 → Pr.Ev (fun k => valiselaw09_InflateCodes.l0 k lens syms x5 (i : Int)) true
  | 0, i, x5, hi, h5 => by
    obtain ⟨lit, hlit⟩ : ∃ lit, lit = x5.set 256 1 := ⟨_, rfl⟩
    have hl : lit.length = 257 := by rw [hlit, List.length_set, h5]
    have h256 : lit[256]?.getD 0 = 1 := by rw [hlit, List.getElem?_set_self (by omega)]; rfl
    refine Pr.Ev.succ (g' := fun k => ((valiseref04_Check.f k lit).bind fun t269 => (if t269 = 0 then ((valiselaw09_laid.f k ([] : List Int) 0 1 1).bind fun bt272 => ((valiselaw09_laid.f k bt272.1 bt272.2 2 2).bind fun bt276 => ((valiselaw09_laid.f k bt276.1 bt276.2 0 10).bind fun bt280 => ((valiselaw09_laid.f k bt280.1 bt280.2 15 4).bind fun bt284 => (if 19 ≤ 35184372088832 then (valiselaw09_InflateCodes.l1 k syms lit (([16, 17, 18, 0, 8, 7, 9, 6, 10, 5, 11, 4, 12, 3, 13, 2, 14, 1, 15] : List Int)) (List.replicate 19 0) 0 bt284.1 bt284.2) else (none)))))) else ((valiselaw09_lives.f).bind fun t270 => (some t270))))) (fun k => by show valiselaw09_InflateCodes.l0 (k + 1) _ _ _ _ = _; rw [valiselaw09_InflateCodes.l0, if_neg (by omega), if_pos (by omega), Option.bind_some, show (256 : Int).toNat = 256 from rfl, ← hlit]) ?_
    refine Pr.Ev.bind (a := Hu.checkS lit) ⟨lit.length + 3, fun k hk => Pr.check4_eq lit (by omega)⟩ ?_
    by_cases hc : Hu.checkS lit = 0
    · simp only [if_pos hc]
      refine Pr.Ev.bind (Pr.laid_ev (n := 0) Pr.rgt_nil (by omega) 1 (by omega) (by omega) 1 (by omega) 1 rfl) ?_
      refine Pr.Ev.bind (Pr.laid_ev (n := 1) Pr.hdr_rgt1 (by omega) 2 (by omega) (by omega) 2 (by omega) 3 rfl) ?_
      refine Pr.Ev.bind (Pr.laid_ev (n := 3) Pr.hdr_rgt2 (by omega) 0 (by omega) (by omega) 10 (by omega) 13 rfl) ?_
      refine Pr.Ev.bind (Pr.laid_ev (n := 13) Pr.hdr_rgt3 (by omega) 15 (by omega) (by omega) 4 (by omega) 17 rfl) ?_
      simp only [if_pos (show 19 ≤ 35184372088832 by decide)]
      exact l1_ev hl hc h256 syms hn 16 0 (by omega)
    · simp only [if_neg hc]
      exact lives_ev
  | d + 1, i, x5, hi, h5 => by
    have jt : Pr.Ev (fun k => valiselaw09_InflateCodes.j2 k lens syms x5 (i : Int) true) true := Pr.Ev.succ (g' := fun _ => (valiselaw09_lives.f).bind fun t => some t) (fun k => by show valiselaw09_InflateCodes.j2 (k + 1) _ _ _ _ _ = _; rw [valiselaw09_InflateCodes.j2, if_pos rfl]) lives_ev
    by_cases c1 : rd lens (i : Int) < 0
    · exact Pr.Ev.succ (g' := fun k => valiselaw09_InflateCodes.j2 k lens syms x5 (i : Int) true) (fun k => by show valiselaw09_InflateCodes.l0 (k + 1) _ _ _ _ = _; rw [valiselaw09_InflateCodes.l0, if_pos (by omega), if_pos (by omega), if_pos c1]) jt
    · by_cases c2 : rd lens (i : Int) > 14
      · exact Pr.Ev.succ (g' := fun k => valiselaw09_InflateCodes.j2 k lens syms x5 (i : Int) true) (fun k => by show valiselaw09_InflateCodes.l0 (k + 1) _ _ _ _ = _; rw [valiselaw09_InflateCodes.l0, if_pos (by omega), if_pos (by omega), if_neg c1, decide_eq_true c2]) jt
      · refine Pr.Ev.succ (g' := fun k => valiselaw09_InflateCodes.j2 k lens syms x5 (i : Int) false) (fun k => by show valiselaw09_InflateCodes.l0 (k + 1) _ _ _ _ = _; rw [valiselaw09_InflateCodes.l0, if_pos (by omega), if_pos (by omega), if_neg c1, decide_eq_false c2]) ?_
        by_cases c3 : rd lens (i : Int) > 0
        · refine Pr.Ev.succ (g' := fun k => valiselaw09_InflateCodes.l0 k lens syms (x5.set i (wrap64 (rd lens (i : Int) + 1))) (wrap64 ((i : Int) + 1))) (fun k => by show valiselaw09_InflateCodes.j2 (k + 1) _ _ _ _ _ = _; rw [valiselaw09_InflateCodes.j2, if_neg (by decide), if_pos (by omega), if_pos (by omega), if_pos c3, if_pos (by omega), Int.toNat_natCast]) ?_
          rw [wnext i (by omega)]
          exact l0_ev lens syms hlens hn d (i + 1) _ (by omega) (by rw [List.length_set, h5])
        · refine Pr.Ev.succ (g' := fun k => valiselaw09_InflateCodes.l0 k lens syms x5 (wrap64 ((i : Int) + 1))) (fun k => by show valiselaw09_InflateCodes.j2 (k + 1) _ _ _ _ _ = _; rw [valiselaw09_InflateCodes.j2, if_neg (by decide), if_pos (by omega), if_pos (by omega), if_neg c3]) ?_
          rw [wnext i (by omega)]
          exact l0_ev lens syms hlens hn d (i + 1) x5 (by omega) h5
theorem j0_true (l0 l1 : List Int) : Pr.Ev (fun k => valiselaw09_InflateCodes.j0 k l0 l1 true) true := Pr.Ev.succ (g' := fun _ => (valiselaw09_lives.f).bind fun t => some t) (fun k => by show valiselaw09_InflateCodes.j0 (k + 1) _ _ _ = _; rw [valiselaw09_InflateCodes.j0, if_pos rfl]) lives_ev
theorem InflateCodes : valiselaw09_InflateCodes.Pure := by
  intro l0 l1 _ _ _ _ _ _
  have h : Pr.Ev (fun k => valiselaw09_InflateCodes.f k l0 l1) true := by
    unfold valiselaw09_InflateCodes.f
    by_cases c1 : (l0.length : Int) > 256
    · refine Ev_congr (fun k => by rw [if_pos c1]) ?_
      exact j0_true l0 l1
    refine Ev_congr (g' := fun k => valiselaw09_InflateCodes.j0 k l0 l1 (decide ((l1.length : Int) > 300))) (fun k => by rw [if_neg c1]) ?_
    by_cases c2 : (l1.length : Int) > 300
    · rw [decide_eq_true c2]
      exact j0_true l0 l1
    rw [decide_eq_false c2]
    refine Pr.Ev.succ (g' := fun k => valiselaw09_InflateCodes.l0 k l0 l1 (List.replicate 257 0) 0) (fun k => by show valiselaw09_InflateCodes.j0 (k + 1) _ _ _ = _; rw [valiselaw09_InflateCodes.j0, if_neg (by decide), if_pos (by decide)]) ?_
    exact l0_ev l0 l1 (by omega) (by omega) l0.length 0 _ (by omega) (List.length_replicate ..)
  obtain ⟨k, hk⟩ := h
  exact ⟨k, hk k (Nat.le_refl _)⟩
end Go.Proofs.YtgflkkjhckcipaaDoor.PureInflateCodes

