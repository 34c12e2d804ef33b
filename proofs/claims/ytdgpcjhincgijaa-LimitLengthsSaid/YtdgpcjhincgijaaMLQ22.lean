-- Texts by hand and by programs of this session, joined (wip/tool/merge.py).
import Derived.Test.YtdgpcjhincgijaaMLQ21
import Derived.Test.YtdgpcjhincgijaaMLQ15
import Derived.Test.YtdgpcjhincgijaaMLQ19
import Derived.Test.YtdgpcjhincgijaaMLQ20
-- YtdgpcjhincgijaaLp10
namespace Go.Proofs.Ytdgpcjhincgijaa.Pg
open Go.RowKit Go.Proofs.YtdgpcjhincgijaaW.PrintWords Go.Proofs.YtdgpcjhincgijaaW.PrintLast Go.Proofs.YtdgpcjhincgijaaW.PrintMore
set_option linter.unusedVariables false
set_option linter.unusedSimpArgs false
open Pr (Srt Stb wP pairP isortF haveF insF sorted_isF isortF_spec srt_unique singL singL_mem bump bumps zerosL lenF oftenS)
/-! ### Plain: the document's Used -/
def Asc (Z : List Int) : Prop := Z.Pairwise (fun a b => a ≤ b)
theorem asc_map {L : List PK} (h : Srt wP L) : Asc (L.map wP) := List.pairwise_map.2 h
theorem asc_unique {a b : List Int} (h1 : Asc a) (h2 : Asc b) (h : a.Perm b) : a = b := List.Perm.eq_of_pairwise (fun _ _ _ _ h1 h2 => Int.le_antisymm h1 h2) h1 h2 h
theorem asc_ins {Z : List Int} {v : Int} {j : Nat} (h : Asc Z) (h1 : ∀ x ∈ Z.take j, x ≤ v) (h2 : ∀ x ∈ Z.drop j, v ≤ x) : Asc (Z.take j ++ [v] ++ Z.drop j) ∧ (Z.take j ++ [v] ++ Z.drop j).Perm (v :: Z) := by
  constructor
  · unfold Asc at h ⊢
    rw [← List.take_append_drop j Z] at h
    obtain ⟨h3, h4, h5⟩ := List.pairwise_append.1 h
    rw [List.append_assoc]
    refine List.pairwise_append.2 ⟨h3, List.pairwise_cons.2 ⟨h2, h4⟩, fun a ha b hb => ?_⟩
    rcases List.mem_cons.1 hb with rfl | hb
    · exact h1 a ha
    · exact h5 a ha b hb
  · have h3 : (Z.take j ++ v :: Z.drop j).Perm (v :: (Z.take j ++ Z.drop j)) := List.perm_middle
    rw [List.take_append_drop] at h3
    rw [List.append_assoc]
    exact h3
theorem used_l1 (l Z R : List Int) (i K : Nat) (hi : i < l.length) (hn : l.length ≤ 288) (hZ : Z.length ≤ 288) (ha : Asc Z) (H : ∀ k Z', K ≤ k → Asc Z' → Z'.Perm (l.getD i 0 :: Z) → valiseref05_Used.l0 k l Z' ((i + 1 : Nat) : Int) = some R) : ∀ (d j k : Nat), j + d = Z.length → K + d < k → (∀ x ∈ Z.take j, x ≤ l.getD i 0) → valiseref05_Used.l1 k l Z (i : Int) (j : Int) = some R
  | d, j, 0, _, hk, _ => by omega
  | 0, j, k + 1, hj, hk, hb => by
    have e1 : rd l (i : Int) = l.getD i 0 := by unfold rd; rw [Int.toNat_natCast]
    obtain ⟨h1, h2⟩ := asc_ins ha hb (by rw [List.drop_eq_nil_of_le (by omega)]; intro x hx; cases hx)
    have h3 := H k _ (by omega) h1 h2
    rw [valiseref05_Used.l1, if_neg (by omega)]
    simp only [Option.bind_some, List.nil_append, Int.toNat_natCast, List.length_nil]
    rw [if_pos (by omega), if_pos (by omega), if_pos (by rw [List.length_take]; omega), if_pos (by omega), if_pos (by omega), if_pos (by rw [List.length_take]; omega), if_pos (by rw [List.length_append, List.length_take, List.length_drop, List.length_singleton]; omega), w_next (by omega), e1]
    exact h3
  | d + 1, j, k + 1, hj, hk, hb => by
    have e1 : rd l (i : Int) = l.getD i 0 := by unfold rd; rw [Int.toNat_natCast]
    have e2 : rd Z (j : Int) = Z[j]'(by omega) := by unfold rd; rw [Int.toNat_natCast, List.getD_eq_getElem?_getD, List.getElem?_eq_getElem (by omega)]; rfl
    rw [valiseref05_Used.l1, if_pos (by omega), if_pos (by omega), if_pos (by omega), if_pos (by omega), e1, e2]
    by_cases hc : Z[j]'(by omega) ≤ l.getD i 0
    · rw [if_pos hc, w_next (by omega)]
      refine used_l1 l Z R i K hi hn hZ ha H d (j + 1) k (by omega) (by omega) (fun x hx => ?_)
      rw [List.take_succ_eq_append_getElem (by omega)] at hx
      rcases List.mem_append.1 hx with hx | hx
      · exact hb x hx
      · rw [List.mem_singleton.1 hx]
        exact hc
    · obtain ⟨h1, h2⟩ := asc_ins ha hb (by
        rw [List.drop_eq_getElem_cons (by omega)]
        intro x hx
        have ha2 := ha
        unfold Asc at ha2
        rw [← List.take_append_drop j Z, List.drop_eq_getElem_cons (by omega)] at ha2
        have h5 := (List.pairwise_cons.1 (List.pairwise_append.1 ha2).2.1).1
        rcases List.mem_cons.1 hx with rfl | hx
        · omega
        · have := h5 x hx
          omega)
      have h3 := H k _ (by omega) h1 h2
      rw [if_neg hc]
      simp only [Option.bind_some, List.nil_append, Int.toNat_natCast, List.length_nil]
      rw [if_pos (by omega), if_pos (by rw [List.length_take]; omega), if_pos (by rw [List.length_take]; omega), if_pos (by rw [List.length_append, List.length_take, List.length_drop, List.length_singleton]; omega), w_next (by omega)]
      exact h3
theorem used_l0 (c : Nat) (hc : 400 ≤ c) (l : List Int) (hn : l.length ≤ 288) (hl : ∀ i, i < l.length → 0 ≤ l.getD i 0) : ∀ (n i k : Nat) (Z : List Int), i + n = l.length → n * c < k → Asc Z → Z.Perm ((singL l i).map wP) → valiseref05_Used.l0 k l Z (i : Int) = some ((isortF (singL l l.length)).map wP)
  | n, i, 0, _, _, hk, _, _ => by omega
  | 0, i, k + 1, Z, hi, hk, ha, hp => by
    obtain rfl : i = l.length := by omega
    rw [valiseref05_Used.l0, if_neg (by omega), asc_unique ha (asc_map (isortF_spec (singL l l.length)).1) (hp.trans ((isortF_perm _).map _).symm)]
  | n + 1, i, k + 1, Z, hi, hk, ha, hp => by
    rw [Nat.succ_mul] at hk
    have e1 : rd l (i : Int) = l.getD i 0 := by unfold rd; rw [Int.toNat_natCast]
    have h0 := hl i (by omega)
    have hs := Pr.singL_succ l i
    have hZ : Z.length ≤ i := by
      rw [hp.length_eq, List.length_map]
      exact Pr.singL_len l i
    rw [valiseref05_Used.l0, if_pos (by omega), if_pos (by omega), e1]
    by_cases h : l.getD i 0 = 0
    · rw [if_neg (by omega)] at hs
      rw [if_pos h, w_next (by omega)]
      exact used_l0 c hc l hn hl n (i + 1) k Z (by omega) (by omega) ha (by rw [hs]; exact hp)
    · rw [if_pos (by omega)] at hs
      rw [if_neg h]
      refine used_l1 l Z _ i (n * c + 1) (by omega) hn (by omega) ha (fun k' Z' hk' ha' hp' => ?_) Z.length 0 k (by omega) (by omega) (by rw [List.take_zero]; intro x hx; cases hx)
      refine used_l0 c hc l hn hl n (i + 1) k' Z' (by omega) (by omega) ha' (hp'.trans ?_)
      rw [hs, List.map_append]
      exact (hp.cons _).trans (List.perm_append_singleton _ _).symm
theorem used_eq {l : List Int} (h : oftenS l = true) {k : Nat} (hk : 120000 ≤ k) : valiseref05_Used.f k l = some ((isortF (singL l l.length)).map wP) := by
  obtain ⟨h1, h2, h3⟩ := often_of h
  unfold valiseref05_Used.f
  exact used_l0 400 (Nat.le_refl _) l h2 (fun i hi => (h3 i hi).1) l.length 0 k [] (by omega) (by omega) List.Pairwise.nil (List.Perm.refl _)
theorem shl_15 (b : Nat) (h1 : b ≤ 15) : shl .i64 1 (b : Int) = ((2 ^ b : Nat) : Int) := by
  obtain rfl | rfl | rfl | rfl | rfl | rfl | rfl | rfl | rfl | rfl | rfl | rfl | rfl | rfl | rfl | rfl : b = 0 ∨ b = 1 ∨ b = 2 ∨ b = 3 ∨ b = 4 ∨ b = 5 ∨ b = 6 ∨ b = 7 ∨ b = 8 ∨ b = 9 ∨ b = 10 ∨ b = 11 ∨ b = 12 ∨ b = 13 ∨ b = 14 ∨ b = 15 := by omega
  all_goals decide
theorem check_eq (l : List Int) (a : Int) {k : Nat} (hk : 130000 ≤ k) : valiseref05_Check.f k l a = some (lenF l a).1 := by
  obtain ⟨k', rfl⟩ : ∃ k', k = k' + 1 := ⟨k - 1, by omega⟩
  have hj : ¬ (oftenS l = true ∧ 1 ≤ a ∧ a ≤ 15) → (lenF l a).1 = 2 := fun h => by
    unfold lenF
    rw [if_pos h]
  unfold valiseref05_Check.f
  rw [often_eq l (by omega)]
  simp only [Option.bind_some]
  by_cases h1 : oftenS l = true
  · rw [if_pos h1]
    by_cases h2 : a < 1
    · rw [if_pos h2, valiseref05_Check.j0, if_pos rfl, hj (fun h => by omega)]
    · rw [if_neg h2, valiseref05_Check.j0]
      by_cases h3 : a > 15
      · rw [if_pos (decide_eq_true h3), hj (fun h => by omega)]
      · obtain ⟨m, rfl⟩ : ∃ m : Nat, a = (m : Int) := ⟨a.toNat, by omega⟩
        rw [if_neg (by rw [decide_eq_false h3]; decide), used_eq h1 (by omega)]
        simp only [Option.bind_some]
        rw [if_pos (by omega), List.length_map, (isortF_perm _).length_eq, shl_15 m (by omega)]
        by_cases h4 : 2 ^ m < (singL l l.length).length
        · rw [if_pos (by omega)]
          unfold lenF
          rw [if_neg (fun h => h ⟨h1, by omega, by omega⟩), Int.toNat_natCast, if_pos h4]
        · obtain ⟨r, hr⟩ := lenF_mk h1 (show 1 ≤ m by omega) (by omega) (by omega)
          rw [if_neg (by omega), hr]
  · rw [if_neg h1, valiseref05_Check.j0, if_pos rfl, hj (fun h => h1 h.1)]
/-! ### Plain: the document's merge -/
theorem merge_l0 : ∀ (n : Nat) (a b : List PK) (acc : List Int) (k : Nat), a.length + b.length = n → acc.length + n < 1000000 → 2 * n + 2 < k → valiseref05_merge.l0 k (a.map wP) (b.map wP) acc = some (acc ++ (mergeF a b).map wP)
  | n, a, b, acc, 0, _, _, hk => by omega
  | n, a, b, acc, 1, _, _, hk => by omega
  | n, [], [], acc, k + 2, hn, hl, hk => by
    rw [valiseref05_merge.l0, if_neg (by decide), valiseref05_merge.j1, if_neg (by decide)]
    simp [mergeF]
  | 0, a :: ta, b, acc, k + 2, hn, hl, hk => by simp at hn
  | 0, [], b :: tb, acc, k + 2, hn, hl, hk => by simp at hn
  | n + 1, [], b :: tb, acc, k + 2, hn, hl, hk => by
    have ih := merge_l0 n [] tb (acc ++ [b.1]) k (by simpa using hn) (by rw [List.length_append, List.length_singleton]; omega) (by omega)
    have hL : ((List.map wP (b :: tb)).length : Int) = tb.length + 1 := by rw [List.length_map, List.length_cons]; omega
    rw [valiseref05_merge.l0, if_neg (by decide), valiseref05_merge.j1, if_pos (decide_eq_true (by omega)), if_neg (by omega), if_neg (by decide), if_pos (by omega), if_pos (by omega), if_pos (by omega)]
    have e : (mergeF [] (b :: tb)).map wP = b.1 :: (mergeF [] tb).map wP := by simp [mergeF, wP]
    rw [e]
    refine (Eq.trans ?_ ih).trans (by rw [List.append_assoc]; rfl)
    rfl
  | n + 1, a :: ta, [], acc, k + 2, hn, hl, hk => by
    have ih := merge_l0 n ta [] (acc ++ [a.1]) k (by simpa using hn) (by rw [List.length_append, List.length_singleton]; omega) (by omega)
    have hL : ((List.map wP (a :: ta)).length : Int) = ta.length + 1 := by rw [List.length_map, List.length_cons]; omega
    rw [valiseref05_merge.l0, if_pos (by omega), valiseref05_merge.j1, if_pos rfl, if_pos (by rfl), if_pos (by omega), if_pos (by omega), if_pos (by omega)]
    have e : (mergeF (a :: ta) []).map wP = a.1 :: (mergeF ta []).map wP := by rw [mergeF_nil, mergeF_nil]; rfl
    rw [e]
    refine (Eq.trans ?_ ih).trans (by rw [List.append_assoc]; rfl)
    rfl
  | n + 1, a :: ta, b :: tb, acc, k + 2, hn, hl, hk => by
    have hL : ((List.map wP (a :: ta)).length : Int) = ta.length + 1 := by rw [List.length_map, List.length_cons]; omega
    have hM : ((List.map wP (b :: tb)).length : Int) = tb.length + 1 := by rw [List.length_map, List.length_cons]; omega
    rw [valiseref05_merge.l0, if_pos (by omega), valiseref05_merge.j1, if_pos rfl, if_neg (by omega), if_pos (by omega), if_pos (by omega), if_pos (by omega), mergeF]
    by_cases h : a.1 ≤ b.1
    · have ih := merge_l0 n ta (b :: tb) (acc ++ [a.1]) k (by simp at hn ⊢; omega) (by rw [List.length_append, List.length_singleton]; omega) (by omega)
      rw [if_pos h, if_pos (show rd (List.map wP (a :: ta)) 0 ≤ rd (List.map wP (b :: tb)) 0 from h), if_pos (by omega), if_pos (by omega)]
      refine (Eq.trans ?_ ih).trans (by rw [List.append_assoc]; rfl)
      rfl
    · have ih := merge_l0 n (a :: ta) tb (acc ++ [b.1]) k (by simp at hn ⊢; omega) (by rw [List.length_append, List.length_singleton]; omega) (by omega)
      rw [if_neg h, if_neg (show ¬ rd (List.map wP (a :: ta)) 0 ≤ rd (List.map wP (b :: tb)) 0 from h), if_pos (by omega), if_pos (by omega)]
      refine (Eq.trans ?_ ih).trans (by rw [List.append_assoc]; rfl)
      rfl
/-! ### Plain: the document's Least -/
theorem have_short (S : List PK) : ∀ j, (haveF S j).length ≤ 2 * S.length
  | 0 => Nat.zero_le _
  | j + 1 => by
    have := have_short S j
    rw [have_len_succ]
    omega
theorem have_le {S : List PK} {B : Nat} (hS : ∀ p ∈ S, p.1 ≤ (B : Int)) : ∀ j, ∀ p ∈ haveF S j, p.1 ≤ ((2 ^ j * B : Nat) : Int)
  | 0, p, hp => by cases hp
  | j + 1, p, hp => by
    have e : 2 ^ (j + 1) * B = 2 * (2 ^ j * B) := by rw [Nat.pow_succ, Nat.mul_comm (2 ^ j) 2, Nat.mul_assoc]
    have e2 : B ≤ 2 ^ (j + 1) * B := Nat.le_mul_of_pos_left _ (Nat.pow_pos (by omega))
    rcases List.mem_append.1 ((isortF_perm _).mem_iff.1 hp) with h | h
    · have := hS p h
      omega
    · obtain ⟨x, hx, y, hy, rfl⟩ := pairP_mem h
      have h1 := have_le hS j x hx
      have h2 := have_le hS j y hy
      show x.1 + y.1 ≤ _
      omega
theorem map_rd {H : List PK} {i : Nat} (h : i < H.length) : rd (H.map wP) (i : Int) = H[i].1 := by
  unfold rd
  rw [Int.toNat_natCast, List.getD_eq_getElem?_getD, List.getElem?_map, List.getElem?_eq_getElem h]
  rfl
theorem pair_get : ∀ (p : Nat) (Y : List PK) (h : p < Y.length / 2), ((pairP Y).take (p + 1)).map wP = ((pairP Y).take p).map wP ++ [(Y[2 * p]'(by omega)).1 + (Y[2 * p + 1]'(by omega)).1]
  | p, [], h => by simp at h
  | p, [_], h => by simp at h
  | 0, a :: b :: t, h => by simp [pairP, wP]
  | p + 1, a :: b :: t, h => by
    have ih := pair_get p t (by simp at h; omega)
    rw [pairP, List.take_succ_cons, List.map_cons, ih, List.take_succ_cons, List.map_cons, List.cons_append]
    rfl
theorem least_l3 (S H : List PK) (M : Nat) (hM : (2 * (S.length : Int)) - 2 = M) (hl : M ≤ H.length) (hs : S.length ≤ 288) (hb : ∀ p ∈ H, 0 < p.1 ∧ p.1 ≤ 140737488355328) : ∀ (d i k : Nat), i + d = M → d < k → valiseref05_Least.l3 k (S.map wP) (H.map wP) (sm i (fun t => (H.getD t (0, [])).1)) (i : Int) = some (sm M (fun t => (H.getD t (0, [])).1))
  | d, i, 0, _, hk => by omega
  | 0, i, k + 1, hi, hk => by
    obtain rfl : i = M := by omega
    rw [valiseref05_Least.l3, List.length_map, Pr.wrap64_id (n := 2 * (S.length : Int)) (by omega) (by omega), Pr.wrap64_id (by omega) (by omega), if_neg (by omega)]
  | d + 1, i, k + 1, hi, hk => by
    have ih := least_l3 S H M hM hl hs hb d (i + 1) k (by omega) (by omega)
    have hg : ∀ t, t < M → 0 ≤ (H.getD t (0, [])).1 ∧ (H.getD t (0, [])).1 ≤ ((140737488355328 : Nat) : Int) := fun t ht => by
      rw [List.getD_eq_getElem?_getD, List.getElem?_eq_getElem (by omega)]
      have := hb _ (List.getElem_mem (show t < H.length by omega))
      show 0 ≤ (H[t]'(by omega)).1 ∧ (H[t]'(by omega)).1 ≤ _
      omega
    have h1 := sm_bound (n := i) (fun t ht => hg t (by omega))
    have h2 := hg i (by omega)
    have h3 : i * 140737488355328 ≤ 576 * 140737488355328 := Nat.mul_le_mul_right _ (by omega)
    have e1 : rd (H.map wP) (i : Int) = (H.getD i (0, [])).1 := by
      rw [map_rd (by omega), List.getD_eq_getElem?_getD, List.getElem?_eq_getElem (by omega)]
      rfl
    have e2 : sm (i + 1) (fun t => (H.getD t (0, [])).1) = sm i (fun t => (H.getD t (0, [])).1) + (H.getD i (0, [])).1 := rfl
    rw [e2] at ih
    rw [valiseref05_Least.l3, List.length_map, List.length_map, Pr.wrap64_id (n := 2 * (S.length : Int)) (by omega) (by omega), Pr.wrap64_id (n := 2 * (S.length : Int) - 2) (by omega) (by omega), if_pos (by omega), if_pos (by omega), if_pos (by omega), e1, Pr.wrap64_id (by omega) (by omega), w_next (by omega)]
    exact ih
theorem least_l2 (S H : List PK) (R : Int) (m lev K : Nat) (hS : Srt wP S) (hs : S.length ≤ 288) (hH : Srt wP H) (hl : H.length ≤ 576) (hb : ∀ p ∈ H, 0 < p.1 ∧ p.1 ≤ 140737488355328) (hlev : lev ≤ 15) (hK : 2000 ≤ K) (hF : ∀ k, K ≤ k → valiseref05_Least.l1 k (m : Int) (S.map wP) ((mergeF S (pairP H)).map wP) ((lev + 1 : Nat) : Int) = some R) : ∀ (d p k : Nat), p + d = H.length / 2 → K + d < k → valiseref05_Least.l2 k (m : Int) (S.map wP) (H.map wP) (lev : Int) (((pairP H).take p).map wP) ((2 * p : Nat) : Int) = some R
  | d, p, 0, _, hk => by omega
  | 0, p, k + 1, hi, hk => by
    have hw : wrap64 (((2 * p : Nat) : Int) + 1) = ((2 * p + 1 : Nat) : Int) := w_next (by omega)
    have e : (pairP H).take p = pairP H := List.take_of_length_le (by rw [Pr.pairP_len]; omega)
    have hm := merge_l0 (S.length + (pairP H).length) S (pairP H) [] k rfl (by rw [Pr.pairP_len, List.length_nil]; omega) (by rw [Pr.pairP_len]; omega)
    rw [valiseref05_Least.l2, hw, List.length_map, if_neg (by omega), e]
    unfold valiseref05_merge.f
    rw [hm]
    simp only [Option.bind_some, List.nil_append]
    rw [w_next (by omega)]
    exact hF k (by omega)
  | d + 1, p, k + 1, hi, hk => by
    have ih := least_l2 S H R m lev K hS hs hH hl hb hlev hK hF d (p + 1) k (by omega) (by omega)
    have hw : wrap64 (((2 * p : Nat) : Int) + 1) = ((2 * p + 1 : Nat) : Int) := w_next (by omega)
    have hw2 : wrap64 (((2 * p : Nat) : Int) + 2) = ((2 * (p + 1) : Nat) : Int) := by
      rw [Pr.wrap64_id (by omega) (by omega)]
      omega
    have h1 := hb _ (List.getElem_mem (show 2 * p < H.length by omega))
    have h2 := hb _ (List.getElem_mem (show 2 * p + 1 < H.length by omega))
    have e := pair_get p H (by omega)
    rw [e] at ih
    rw [valiseref05_Least.l2, hw, hw2, List.length_map, if_pos (by omega), if_pos (by omega), if_pos (by omega), if_pos (by omega), if_pos (by rw [List.length_map, List.length_take, Pr.pairP_len]; omega), map_rd (by omega), map_rd (by omega), Pr.wrap64_id (by omega) (by omega)]
    exact ih
theorem least_l1 (c : Nat) (hc : 300 ≤ c) (S : List PK) (m M : Nat) (hS : Srt wP S) (hP : Pos S) (hs : S.length ≤ 288) (hm : m ≤ 15) (hB : ∀ p ∈ S, p.1 ≤ 4294967295) (hM : (2 * (S.length : Int)) - 2 = M) (hl : M ≤ (haveF S m).length) : ∀ (d j k : Nat), j + d = m → d * c + 3000 < k → valiseref05_Least.l1 k (m : Int) (S.map wP) ((haveF S j).map wP) (j : Int) = some (sm M (fun t => ((haveF S m).getD t (0, [])).1))
  | d, j, 0, _, hk => by omega
  | 0, j, k + 1, hi, hk => by
    obtain rfl : j = m := by omega
    have hp : 2 ^ j ≤ 2 ^ 15 := Nat.pow_le_pow_right (by omega) hm
    have hb : ∀ p ∈ haveF S j, 0 < p.1 ∧ p.1 ≤ 140737488355328 := fun p hp' => by
      have h1 := have_le (B := 4294967295) hB j p hp'
      have h2 : 2 ^ j * 4294967295 ≤ 2 ^ 15 * 4294967295 := Nat.mul_le_mul_right _ hp
      exact ⟨have_pos hP j p hp', by omega⟩
    rw [valiseref05_Least.l1, if_neg (by omega)]
    exact least_l3 S _ M hM hl hs hb M 0 k (by omega) (by omega)
  | d + 1, j, k + 1, hi, hk => by
    rw [Nat.succ_mul] at hk
    have hp : 2 ^ j ≤ 2 ^ 15 := Nat.pow_le_pow_right (by omega) (by omega)
    have hb : ∀ p ∈ haveF S j, 0 < p.1 ∧ p.1 ≤ 140737488355328 := fun p hp' => by
      have h1 := have_le (B := 4294967295) hB j p hp'
      have h2 : 2 ^ j * 4294967295 ≤ 2 ^ 15 * 4294967295 := Nat.mul_le_mul_right _ hp
      exact ⟨have_pos hP j p hp', by omega⟩
    have hsh := have_short S j
    rw [valiseref05_Least.l1, if_pos (by omega)]
    refine least_l2 S (haveF S j) _ m j (d * c + 3001) hS hs (haveF_srt S j) (by omega) hb (by omega) (by omega) (fun k' hk' => ?_) ((haveF S j).length / 2) 0 k (by omega) (by omega)
    have ih := least_l1 c hc S m M hS hP hs hm hB hM hl d (j + 1) k' (by omega) (by omega)
    rw [haveF_succ hS] at ih
    exact ih
theorem least_l0 (Z : List Int) (hz : Z.length ≤ 1) (hb : ∀ x ∈ Z, 0 ≤ x ∧ x ≤ 4294967295) (k : Nat) (hk : 3 ≤ k) : valiseref05_Least.l0 k Z 0 0 = some Z.sum := by
  obtain ⟨k, rfl⟩ : ∃ k', k = k' + 2 := ⟨k - 2, by omega⟩
  match Z, hz, hb with
  | [], _, _ => rfl
  | [x], _, hb =>
    have h := hb x List.mem_cons_self
    have h1 : ([x].length : Int) = 1 := rfl
    have h2 : wrap64 ((0 : Int) + 1) = 1 := Pr.wrap64_id (by omega) (by omega)
    rw [valiseref05_Least.l0, if_pos (by omega), if_pos (by omega), show rd [x] 0 = x from rfl, show (0 : Int) + x = x by omega, Pr.wrap64_id (by omega) (by omega), h2, valiseref05_Least.l0, if_neg (by omega), List.sum_cons, List.sum_nil, Int.add_zero]
/-- What the lengths cost is what the best ones cost. -/
theorem least_eq {l r : List Int} {most : Int} (h : lenF l most = (0, r)) {k : Nat} (hk : 130000 ≤ k) : valiseref05_Least.f k l most = some (sm l.length (fun i => l.getD i 0 * r.getD i 0)) := by
  obtain ⟨h1, m, rfl, h2, h3, h4, _⟩ := lenF_ok h
  obtain ⟨g1, g2, g3⟩ := often_of h1
  have hB : ∀ p ∈ isortF (singL l l.length), p.1 ≤ 4294967295 := fun p hp => by
    obtain ⟨j, hj, rfl, _⟩ := sing_of hp
    exact (g3 j hj).2
  have hln := (isortF_perm (singL l l.length)).length_eq
  have hns := Pr.singL_len l l.length
  unfold valiseref05_Least.f
  rw [used_eq h1 (by omega)]
  simp only [Option.bind_some]
  rw [List.length_map]
  by_cases hn : (singL l l.length).length < 2
  · rw [if_pos (by omega), least_l0 _ (by rw [List.length_map]; omega) (fun x hx => by
      obtain ⟨p, hp, rfl⟩ := List.mem_map.1 hx
      have := hB p hp
      have := sing_pos l p hp
      unfold wP
      omega) k (by omega)]
    congr 1
    rcases few_cases h hn with ⟨e1, rfl⟩ | ⟨j, hj, hv, e1, rfl⟩
    · rw [e1]
      symm
      refine (sm_congr fun i _ => ?_).trans (sm_zero _)
      rw [zeros_get, Int.mul_zero]
    · rw [e1]
      have e2 : sm l.length (fun i => l.getD i 0 * (bumps (zerosL l) [(j : Int)]).getD i 0) = sm l.length (fun i => if l.getD i 0 > 0 then l.getD i 0 * (if j = i then 1 else 0) else 0) := by
        refine sm_congr fun i hi => ?_
        rw [one_getD hi]
        by_cases hz : l.getD i 0 > 0
        · rw [if_pos hz]
        · have := (g3 i hi).1
          rw [if_neg hz, show l.getD i 0 = 0 by omega, Int.zero_mul]
      rw [e2, by_rank l (fun i => l.getD i 0 * (if j = i then 1 else 0)), e1]
      show (List.map wP [(l.getD j 0, [(j : Int)])]).sum = 0 + l.getD (symOf [(l.getD j 0, [(j : Int)])] 0) 0 * (if j = symOf [(l.getD j 0, [(j : Int)])] 0 then 1 else 0)
      have e3 : symOf [(l.getD j 0, [(j : Int)])] 0 = j := by
        unfold symOf
        simp
      rw [e3, if_pos rfl]
      simp [wP]
  · obtain ⟨m', ss, e, _, _, _, ht⟩ := lenF_told h (by omega)
    obtain rfl : m = m' := by omega
    have hen : 2 * (singL l l.length).length - 2 ≤ (haveF (isortF (singL l l.length)) m).length := by
      have := have_enough (S := isortF (singL l l.length)) (m := m) (by omega)
      omega
    rw [if_neg (by omega), ht.cost (fun i hi => (g3 i hi).1), sm_take hen]
    exact least_l1 300 (Nat.le_refl _) _ m (2 * (singL l l.length).length - 2) (isortF_spec _).1 (sing_pos l) (by omega) h3 hB (by omega) hen m 0 k (by omega) (by omega)
/-! ### Plain: right -/
def tkS (r : List Int) (i : Nat) : Int := sm i (fun i => if r.getD i 0 > 0 then ((2 ^ (15 - (r.getD i 0).toNat) : Nat) : Int) else 0)
theorem tk_bound (r : List Int) (n : Nat) : 0 ≤ tkS r n ∧ tkS r n ≤ (n * 32768 : Nat) := by
  unfold tkS
  refine sm_bound (B := 32768) (fun t _ => ?_)
  split
  · have h1 : 2 ^ (15 - (r.getD t 0).toNat) ≤ 2 ^ 15 := Nat.pow_le_pow_right (by omega) (by omega)
    exact ⟨Int.natCast_nonneg _, Int.ofNat_le.2 (show _ ≤ 32768 from h1)⟩
  · omega
theorem takes_l0 (r : List Int) (hl : r.length ≤ 288) (hb : ∀ i, i < r.length → 0 ≤ r.getD i 0 ∧ r.getD i 0 ≤ 15) : ∀ (n i k : Nat), i + n = r.length → n < k → valiseref04_Takes.l0 k r (tkS r i) (i : Int) = some (tkS r r.length)
  | n, i, 0, _, hk => by omega
  | 0, i, k + 1, hi, hk => by
    obtain rfl : i = r.length := by omega
    rw [valiseref04_Takes.l0, if_neg (by omega)]
  | n + 1, i, k + 1, hi, hk => by
    have ih := takes_l0 r hl hb n (i + 1) k (by omega) (by omega)
    have e1 : rd r (i : Int) = r.getD i 0 := by unfold rd; rw [Int.toNat_natCast]
    have e2 : tkS r (i + 1) = tkS r i + (if r.getD i 0 > 0 then ((2 ^ (15 - (r.getD i 0).toNat) : Nat) : Int) else 0) := rfl
    have h1 := hb i (by omega)
    have h2 := tk_bound r i
    have h3 := tk_bound r (i + 1)
    rw [valiseref04_Takes.l0, if_pos (by omega), if_pos (by omega), e1]
    by_cases h : r.getD i 0 > 0
    · rw [if_pos h] at e2
      have e3 : wrap64 (15 - r.getD i 0) = ((15 - (r.getD i 0).toNat : Nat) : Int) := by
        rw [Pr.wrap64_id (by omega) (by omega)]
        omega
      rw [if_pos h, e3, if_pos (by omega), shl_15 _ (by omega), ← e2, Pr.wrap64_id (by omega) (by omega), w_next (by omega)]
      exact ih
    · rw [if_neg h, Int.add_zero] at e2
      rw [if_neg h, w_next (by omega), ← e2]
      exact ih
theorem takes_eq {r : List Int} (hl : r.length ≤ 288) (hb : ∀ i, i < r.length → 0 ≤ r.getD i 0 ∧ r.getD i 0 ≤ 15) {k : Nat} (hk : 300 ≤ k) : valiseref04_Takes.f k r = some (tkS r r.length) := by
  unfold valiseref04_Takes.f
  exact takes_l0 r hl hb r.length 0 k (by omega) (by omega)
theorem told_used {l r : List Int} {most : Int} (h : lenF l most = (0, r)) {i : Nat} (hi : i < l.length) : (r.getD i 0 > 0) ↔ (l.getD i 0 > 0) := by
  by_cases hn : (singL l l.length).length < 2
  · rcases few_cases h hn with ⟨e1, rfl⟩ | ⟨j, hj, hv, e1, rfl⟩
    · rw [zeros_get]
      refine ⟨fun h => by omega, fun h => ?_⟩
      exfalso
      have := (isortF_perm _).mem_iff.1 (sing_at hi h)
      rw [e1] at this
      cases this
    · rw [one_getD hi]
      refine ⟨fun h => ?_, fun h => ?_⟩
      · split at h
        · next e => subst e; exact hv
        · omega
      · have := (isortF_perm _).mem_iff.1 (sing_at hi h)
        rw [e1] at this
        have := List.mem_singleton.1 this
        injection this with _ this
        injection this with this _
        rw [if_pos (by omega)]
        omega
  · obtain ⟨m', ss, e, _, _, _, ht⟩ := lenF_told h (by omega)
    refine ⟨fun h => ?_, fun h => ?_⟩
    · refine Classical.byContradiction fun hz => ?_
      have := ht.zero i hi hz
      omega
    · have := ht.used hi h
      omega
theorem told_takes {l r : List Int} {most : Int} (h : lenF l most = (0, r)) : tkS r r.length = if (singL l l.length).length < 2 then ((singL l l.length).length : Int) * 16384 else 32768 := by
  have hl := lenF_len h
  rw [hl]
  split
  · next hn =>
    unfold tkS
    rcases few_cases h hn with ⟨e1, rfl⟩ | ⟨j, hj, hv, e1, rfl⟩
    · rw [e1]
      refine (sm_congr fun i _ => ?_).trans (sm_zero _)
      rw [zeros_get, if_neg (by omega)]
    · have e2 : sm l.length (fun i => if (bumps (zerosL l) [(j : Int)]).getD i 0 > 0 then ((2 ^ (15 - ((bumps (zerosL l) [(j : Int)]).getD i 0).toNat) : Nat) : Int) else 0) = sm l.length (fun i => if l.getD i 0 > 0 then (16384 : Int) else 0) := by
        refine sm_congr fun i hi => ?_
        have hu := told_used h hi
        by_cases hp : l.getD i 0 > 0
        · rw [if_pos hp, if_pos (hu.2 hp)]
          have := hu.2 hp
          rw [one_getD hi] at this ⊢
          split at this
          · next e => rw [if_pos e]; rfl
          · omega
        · rw [if_neg hp, if_neg (fun h => hp (hu.1 h))]
      rw [e2, by_rank l (fun _ => 16384), e1]
      show (0 : Int) + 16384 = ((1 : Nat) : Int) * 16384
      omega
  · next hn =>
    obtain ⟨m', ss, e, _, hm, _, ht⟩ := lenF_told h (by omega)
    exact ht.takes hm (by omega)
theorem right_l0 {l r : List Int} {most : Int} (h : lenF l most = (0, r)) : ∀ (n i k : Nat), i + n = l.length → 2 * n + 500 < k → valiselaw05_right.l0 k l r most ((singL l i).length : Int) (i : Int) = some true
  | n, i, 0, _, hk => by omega
  | n, i, 1, _, hk => by omega
  | 0, i, k + 2, hi, hk => by
    obtain rfl : i = l.length := by omega
    have hl := lenF_len h
    have hn := (often_of (lenF_ok h).1).2.1
    obtain ⟨_, m, rfl, _, hm, _⟩ := lenF_ok h
    have hb : ∀ i, i < r.length → 0 ≤ r.getD i 0 ∧ r.getD i 0 ≤ 15 := fun i hi => by
      have := told_bound h (i := i) (by omega)
      omega
    have ht := told_takes h
    rw [valiselaw05_right.l0, if_neg (by omega)]
    by_cases h2 : (singL l l.length).length < 2
    · rw [if_pos h2] at ht
      rw [if_pos (by omega), takes_eq (by omega) hb (by omega), ht]
      simp only [Option.bind_some]
      rw [Pr.wrap64_id (by omega) (by omega)]
      simp
    · rw [if_neg h2] at ht
      rw [if_neg (by omega)]
      unfold valiseref04_Check.f
      rw [lens_eq r (by omega), told_lens h]
      simp only [Option.bind_some]
      rw [takes_eq (by omega) hb (by omega), ht]
      rfl
  | n + 1, i, k + 2, hi, hk => by
    have ih := right_l0 h n (i + 1) k (by omega) (by omega)
    have hl := lenF_len h
    have hn := (often_of (lenF_ok h).1).2.1
    have e1 : rd r (i : Int) = r.getD i 0 := by unfold rd; rw [Int.toNat_natCast]
    have e2 : rd l (i : Int) = l.getD i 0 := by unfold rd; rw [Int.toNat_natCast]
    have hu := told_used h (i := i) (by omega)
    have hb := told_bound h (i := i) (by omega)
    have hs := Pr.singL_succ l i
    have hsl := Pr.singL_len l i
    have e3 : ((decide (r.getD i 0 > 0)) != (decide (l.getD i 0 > 0))) = false := by
      rw [decide_eq_decide.2 hu]
      exact bne_self_eq_false _
    rw [valiselaw05_right.l0, if_pos (by omega), if_pos (by omega), if_pos (by omega), e1, e2, e3, if_neg (by decide), decide_eq_false (by omega), valiselaw05_right.j2, if_neg (by decide), if_pos (by omega), if_pos (by omega), e2]
    by_cases hp : l.getD i 0 > 0
    · rw [if_pos hp] at hs
      rw [if_pos hp, w_next (by omega), w_next (by omega)]
      rw [hs, List.length_append, List.length_singleton] at ih
      exact ih
    · rw [if_neg hp] at hs
      rw [if_neg hp, w_next (by omega)]
      rw [hs] at ih
      exact ih
theorem right_eq {l r : List Int} {most : Int} (h : lenF l most = (0, r)) {k : Nat} (hk : 2000 ≤ k) : valiselaw05_right.f k l r most = some true := by
  obtain ⟨k', rfl⟩ : ∃ k', k = k' + 1 := ⟨k - 1, by omega⟩
  have hl := lenF_len h
  have hn := (often_of (lenF_ok h).1).2.1
  unfold valiselaw05_right.f
  rw [if_pos (by omega), lens_eq r (by omega), told_lens h]
  simp only [Option.bind_some]
  rw [valiselaw05_right.j0, if_neg (by decide)]
  exact right_l0 h l.length 0 k' (by omega) (by omega)
theorem same_l0 (l : List Int) (hl : l.length ≤ 288) : ∀ (n i k : Nat), i + n = l.length → n < k → valiseref04_Same.l0 k l l (i : Int) = some true
  | n, i, 0, _, hk => by omega
  | 0, i, k + 1, hi, hk => by rw [valiseref04_Same.l0, if_neg (by omega)]
  | n + 1, i, k + 1, hi, hk => by
    have ih := same_l0 l hl n (i + 1) k (by omega) (by omega)
    rw [valiseref04_Same.l0, if_pos (by omega), if_pos (by omega), if_pos (by omega), if_pos rfl, w_next (by omega)]
    exact ih
theorem limitLengths_pure : valiselaw05_LimitLengths.Pure := by
  intro l0 a1 _ h8 _ _
  refine ⟨200001, ?_⟩
  unfold valiselaw05_LimitLengths.f limit_Lengths.f
  simp only [Option.bind_some, List.nil_append, List.length_nil, Nat.zero_add]
  rw [if_pos (by omega), check_eq l0 a1 (by omega)]
  simp only [Option.bind_some]
  by_cases h : (lenF l0 a1).1 = 0
  · have e : lenF l0 a1 = (0, (lenF l0 a1).2) := by rw [← h]
    have hn := (often_of (lenF_ok e).1).2.1
    rw [if_pos h, if_pos h, right_eq e (by omega)]
    simp only [Option.bind_some]
    rw [if_pos trivial]
    unfold valiseref04_Same.f
    rw [if_pos rfl, show (0 : Int) = ((0 : Nat) : Int) from rfl, same_l0 l0 hn l0.length 0 200001 (by omega) (by omega)]
    simp only [Option.bind_some]
    rw [show (200001 : Nat) = 200000 + 1 from rfl, valiselaw05_LimitLengths.j0, if_neg (by decide), cost_eq l0 _ (by omega), told_cost e]
    simp only [Option.bind_some]
    rw [if_pos trivial, least_eq e (by omega)]
    simp only [Option.bind_some]
    rw [if_pos trivial, lives_at (by omega)]
    rfl
  · have e0 : ((lenF l0 a1).2.length : Int) = 0 := by rw [lenF_bad h]; rfl
    rw [if_neg h, if_pos trivial, if_pos e0, lives_at (by omega)]
    rfl
end Go.Proofs.Ytdgpcjhincgijaa.Pg

-- YtdgpcjhincgijaaPureLimitLengths
namespace Go.Proofs.Ytdgpcjhincgijaa.Pure
theorem LimitLengths : Go.Proofs.Ytdgpcjhincgijaa.Pg.valiselaw05_LimitLengths.Pure := Go.Proofs.Ytdgpcjhincgijaa.Pg.limitLengths_pure
end Go.Proofs.Ytdgpcjhincgijaa.Pure

