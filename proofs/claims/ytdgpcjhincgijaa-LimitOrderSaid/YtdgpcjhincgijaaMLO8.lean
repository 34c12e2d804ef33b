-- Texts by hand and by programs of this session, joined (wip/tool/merge.py).
import Derived.Test.YtdgpcjhincgijaaMLO7
-- YtdgpcjhincgijaaLp3
namespace Go.Proofs.Ytdgpcjhincgijaa.Pg
open Go.RowKit Go.Proofs.YtdgpcjhincgijaaW.PrintWords Go.Proofs.YtdgpcjhincgijaaW.PrintLast
set_option linter.unusedVariables false
set_option linter.unusedSimpArgs false
/-! ### Plain: levels ta merges -/
abbrev PK := Int × List Int
open Pr (Srt Stb wP pairP isortF haveF insF sorted_isF isortF_spec srt_unique)
def mergeF : List PK → List PK → List PK
  | [], b => b
  | a :: ta, [] => a :: ta
  | a :: ta, b :: tb => if a.1 ≤ b.1 then a :: mergeF ta (b :: tb) else b :: mergeF (a :: ta) tb
termination_by a b => a.length + b.length
theorem mergeF_perm : ∀ a b : List PK, (mergeF a b).Perm (a ++ b)
  | [], b => by simp [mergeF]
  | a :: ta, [] => by simp [mergeF]
  | a :: ta, b :: tb => by
    rw [mergeF]
    split
    · exact (mergeF_perm ta (b :: tb)).cons a
    · exact ((mergeF_perm (a :: ta) tb).cons b).trans (List.perm_middle.symm)
termination_by a b => a.length + b.length
theorem mergeF_srt : ∀ a b : List PK, Srt wP a → Srt wP b → Srt wP (mergeF a b)
  | [], b, _, h => by simpa [mergeF] using h
  | a :: ta, [], h, _ => by simpa [mergeF] using h
  | a :: ta, b :: tb, h1, h2 => by
    obtain ⟨c1, d1⟩ := List.pairwise_cons.1 h1
    obtain ⟨c2, d2⟩ := List.pairwise_cons.1 h2
    rw [mergeF]
    split
    next hab =>
      refine List.pairwise_cons.2 ⟨fun x hx => ?_, mergeF_srt ta (b :: tb) d1 h2⟩
      rcases List.mem_append.1 ((mergeF_perm _ _).mem_iff.1 hx) with hx | hx
      · exact c1 x hx
      · rcases List.mem_cons.1 hx with rfl | hx
        · exact hab
        · exact Int.le_trans (show wP a ≤ wP b from hab) (c2 x hx)
    next hab =>
      refine List.pairwise_cons.2 ⟨fun x hx => ?_, mergeF_srt (a :: ta) tb h1 d2⟩
      have hba : wP b ≤ wP a := by unfold wP; omega
      rcases List.mem_append.1 ((mergeF_perm _ _).mem_iff.1 hx) with hx | hx
      · rcases List.mem_cons.1 hx with rfl | hx
        · exact hba
        · exact Int.le_trans hba (c1 x hx)
      · exact c2 x hx
termination_by a b => a.length + b.length
theorem mergeF_stb : ∀ a b : List PK, Srt wP a → Srt wP b → Stb wP (a ++ b) (mergeF a b)
  | [], b, _, _ => by simpa [mergeF] using Stb.refl b
  | a :: ta, [], _, _ => by simpa [mergeF] using Stb.refl (a :: ta)
  | a :: ta, b :: tb, h1, h2 => by
    obtain ⟨c1, d1⟩ := List.pairwise_cons.1 h1
    obtain ⟨c2, d2⟩ := List.pairwise_cons.1 h2
    intro k
    rw [mergeF]
    split
    next hab =>
      have ih := mergeF_stb ta (b :: tb) d1 h2 k
      rw [List.cons_append, List.filter_cons, List.filter_cons, ih]
    next hab =>
      have ih := mergeF_stb (a :: ta) tb h1 d2 k
      rw [List.filter_cons, ih, List.filter_append, List.filter_append, List.filter_cons (x := b)]
      by_cases hb : (wP b == k) = true
      · have hn : (a :: ta).filter (fun x => wP x == k) = [] := List.filter_eq_nil_iff.2 (fun x hx => by
          rw [beq_iff_eq] at hb ⊢
          have : wP a ≤ wP x := by
            rcases List.mem_cons.1 hx with rfl | hx
            · exact Int.le_refl _
            · exact c1 x hx
          unfold wP at this hb ⊢
          omega)
        rw [hn, if_pos hb, if_pos hb]
        rfl
      · rw [if_neg hb]
        simp [hb]
termination_by a b => a.length + b.length
theorem isort_merge {a b : List PK} (h1 : Srt wP a) (h2 : Srt wP b) : isortF (a ++ b) = mergeF a b :=
  (sorted_isF (mergeF_srt a b h1 h2) (mergeF_stb a b h1 h2)).symm
/-- What comes first in a merge: first ones of each. -/
theorem mergeF_take : ∀ (a b : List PK) (m : Nat), m ≤ a.length + b.length → Srt wP a → Srt wP b → ∃ s p, s ≤ a.length ∧ p ≤ b.length ∧ s + p = m ∧ ((mergeF a b).take m).Perm (a.take s ++ b.take p) ∧ (∀ x ∈ a.take s, ∀ y ∈ b.drop p, x.1 ≤ y.1) ∧ (∀ y ∈ b.take p, ∀ x ∈ a.drop s, y.1 < x.1)
  | _, _, 0, _, _, _ => ⟨0, 0, by omega, by omega, rfl, by simp, by simp, by simp⟩
  | [], b, m + 1, h, _, _ => ⟨0, m + 1, by simp, by simpa using h, by omega, by simp [mergeF], by simp, by simp⟩
  | a :: ta, [], m + 1, h, _, _ => ⟨m + 1, 0, by simpa using h, by simp, by omega, by simp [mergeF], by simp, by simp⟩
  | a :: ta, b :: tb, m + 1, h, h1, h2 => by
    obtain ⟨c1, d1⟩ := List.pairwise_cons.1 h1
    obtain ⟨c2, d2⟩ := List.pairwise_cons.1 h2
    rw [mergeF]
    split
    next hab =>
      obtain ⟨s, p, e1, e2, e3, e4, e5, e6⟩ := mergeF_take ta (b :: tb) m (by simp at h ⊢; omega) d1 h2
      refine ⟨s + 1, p, by simp; omega, e2, by omega, ?_, ?_, ?_⟩
      · rw [List.take_succ_cons, List.take_succ_cons, List.cons_append]
        exact e4.cons a
      · intro x hx y hy
        rw [List.take_succ_cons] at hx
        rcases List.mem_cons.1 hx with rfl | hx
        · rcases List.mem_cons.1 (List.mem_of_mem_drop hy) with rfl | hy
          · exact hab
          · exact Int.le_trans hab (c2 y hy)
        · exact e5 x hx y hy
      · intro y hy x hx
        rw [List.drop_succ_cons] at hx
        exact e6 y hy x hx
    next hab =>
      obtain ⟨s, p, e1, e2, e3, e4, e5, e6⟩ := mergeF_take (a :: ta) tb m (by simp at h ⊢; omega) h1 d2
      refine ⟨s, p + 1, e1, by simp; omega, by omega, ?_, ?_, ?_⟩
      · rw [List.take_succ_cons, List.take_succ_cons]
        exact (e4.cons b).trans List.perm_middle.symm
      · intro x hx y hy
        rw [List.drop_succ_cons] at hy
        exact e5 x hx y hy
      · intro y hy x hx
        rw [List.take_succ_cons] at hy
        rcases List.mem_cons.1 hy with rfl | hy
        · rcases List.mem_cons.1 (List.mem_of_mem_drop hx) with rfl | hx
          · omega
          · have : a.1 ≤ x.1 := c1 x hx
            omega
        · exact e6 y hy x hx
termination_by a b => a.length + b.length
/-! ### Plain: pairs, levels -/
theorem pairP_mem : ∀ {Y : List PK} {q : PK}, q ∈ pairP Y → ∃ x ∈ Y, ∃ y ∈ Y, q = (x.1 + y.1, x.2 ++ y.2)
  | [], q, h => by simp [pairP] at h
  | [_], q, h => by simp [pairP] at h
  | a :: b :: t, q, h => by
    rw [pairP] at h
    rcases List.mem_cons.1 h with rfl | h
    · exact ⟨a, by simp, b, by simp, rfl⟩
    · obtain ⟨x, hx, y, hy, e⟩ := pairP_mem h
      exact ⟨x, by simp [hx], y, by simp [hy], e⟩
theorem pairP_srt : ∀ {Y : List PK}, Srt wP Y → Srt wP (pairP Y)
  | [], _ => List.Pairwise.nil
  | [_], _ => by simp [pairP]; exact List.Pairwise.nil
  | a :: b :: t, h => by
    obtain ⟨c1, d1⟩ := List.pairwise_cons.1 h
    obtain ⟨c2, d2⟩ := List.pairwise_cons.1 d1
    rw [pairP]
    refine List.pairwise_cons.2 ⟨fun q hq => ?_, pairP_srt d2⟩
    obtain ⟨x, hx, y, hy, rfl⟩ := pairP_mem hq
    have h1 : a.1 ≤ x.1 := c1 x (by simp [hx])
    have h2 : b.1 ≤ y.1 := c2 y hy
    show a.1 + b.1 ≤ x.1 + y.1
    omega
theorem haveF_srt (S : List PK) : ∀ j, Srt wP (haveF S j)
  | 0 => List.Pairwise.nil
  | j + 1 => (isortF_spec _).1
theorem haveF_succ {S : List PK} (hS : Srt wP S) (j : Nat) : haveF S (j + 1) = mergeF S (pairP (haveF S j)) := isort_merge hS (pairP_srt (haveF_srt S j))
def sumF (φ : PK → Int) (L : List PK) : Int := (L.map φ).sum
def Adds (φ : PK → Int) : Prop := ∀ a b : PK, φ (a.1 + b.1, a.2 ++ b.2) = φ a + φ b
theorem sumF_perm {φ : PK → Int} {a b : List PK} (h : a.Perm b) : sumF φ a = sumF φ b := by
  induction h with
  | nil => rfl
  | cons x _ ih => simp only [sumF, List.map_cons, List.sum_cons] at ih ⊢; omega
  | swap x y l => simp only [sumF, List.map_cons, List.sum_cons]; omega
  | trans _ _ i1 i2 => exact i1.trans i2
theorem sumF_append (φ : PK → Int) (a b : List PK) : sumF φ (a ++ b) = sumF φ a + sumF φ b := by
  unfold sumF
  rw [List.map_append, List.sum_append]
theorem pair_take {φ : PK → Int} (hφ : Adds φ) : ∀ (p : Nat) (Y : List PK), p ≤ Y.length / 2 → sumF φ ((pairP Y).take p) = sumF φ (Y.take (2 * p))
  | 0, _, _ => by simp [sumF]
  | p + 1, [], h => by simp at h
  | p + 1, [_], h => by simp at h
  | p + 1, a :: b :: t, h => by
    have ih := pair_take hφ p t (by simp at h; omega)
    rw [pairP, List.take_succ_cons, show 2 * (p + 1) = 2 * p + 1 + 1 by omega, List.take_succ_cons, List.take_succ_cons]
    have e := hφ a b
    simp only [sumF, List.map_cons, List.sum_cons] at ih ⊢
    omega
/-- How many singles stand first on each level, from the last level down. -/
theorem levels {S : List PK} (hS : Srt wP S) : ∀ (j m : Nat), m ≤ (haveF S j).length → ∃ ss : List Nat, ss.length = j ∧ ∀ φ, Adds φ → sumF φ ((haveF S j).take m) = (ss.map (fun s => sumF φ (S.take s))).sum
  | 0, m, _ => ⟨[], rfl, fun φ _ => by simp [haveF, sumF]⟩
  | j + 1, m, hm => by
    have hl : (mergeF S (pairP (haveF S j))).length = S.length + (pairP (haveF S j)).length := by rw [(mergeF_perm _ _).length_eq, List.length_append]
    rw [haveF_succ hS] at hm ⊢
    obtain ⟨s, p, e1, e2, e3, e4, _, _⟩ := mergeF_take S (pairP (haveF S j)) m (by rw [← hl]; exact hm) hS (pairP_srt (haveF_srt S j))
    rw [Pr.pairP_len] at e2
    obtain ⟨ss, h1, h2⟩ := levels hS j (2 * p) (by omega)
    refine ⟨s :: ss, by rw [List.length_cons, h1], fun φ hφ => ?_⟩
    rw [sumF_perm e4, sumF_append, pair_take hφ p _ e2, h2 φ hφ, List.map_cons, List.sum_cons]
/-! ### Plain: the row told counts symbols -/
open Pr (bump bumps zerosL)
def cnt (x : Int) (p : PK) : Int := (p.2.count x : Int)
theorem cnt_adds (x : Int) : Adds (cnt x) := fun a b => by
  unfold cnt
  show ((a.2 ++ b.2).count x : Int) = _
  rw [List.count_append]
  omega
theorem bump_getD {out : List Int} {s : Int} {i : Nat} (hs : 0 ≤ s) (hi : i < out.length) : (bump out s).getD i 0 = out.getD i 0 + (if s = (i : Int) then 1 else 0) := by
  unfold bump
  rw [List.getD_eq_getElem?_getD, List.getElem?_set]
  by_cases h : s.toNat = i
  · rw [if_pos h, if_pos (by omega), if_pos (by omega)]
    subst h
    rfl
  · rw [if_neg h, if_neg (by omega), List.getD_eq_getElem?_getD]
    omega
theorem bumps_getD : ∀ {r out : List Int} {i : Nat}, (∀ s ∈ r, 0 ≤ s) → i < out.length → (bumps out r).getD i 0 = out.getD i 0 + (r.count (i : Int) : Int)
  | [], out, i, _, _ => by simp [bumps]
  | s :: r, out, i, h, hi => by
    have h1 := bumps_getD (r := r) (out := bump out s) (i := i) (fun x hx => h x (by simp [hx])) (by rw [Pr.bump_len]; exact hi)
    show (bumps (bump out s) r).getD i 0 = _
    rw [h1, bump_getD (h s (by simp)) hi, List.count_cons]
    by_cases e : s = (i : Int)
    · rw [if_pos e, if_pos (by simpa using e)]
      omega
    · rw [if_neg e, if_neg (by simpa using e)]
      omega
theorem out_getD : ∀ {hs : List PK} {out : List Int} {i : Nat}, (∀ p ∈ hs, ∀ s ∈ p.2, 0 ≤ s) → i < out.length → (hs.foldl (fun out p => bumps out p.2) out).getD i 0 = out.getD i 0 + sumF (cnt (i : Int)) hs
  | [], out, i, _, _ => by simp [sumF]
  | p :: hs, out, i, h, hi => by
    have h1 := out_getD (hs := hs) (out := bumps out p.2) (i := i) (fun q hq => h q (by simp [hq])) (by rw [Pr.bumps_len]; exact hi)
    rw [List.foldl_cons, h1, bumps_getD (h p (by simp)) hi]
    simp only [sumF, List.map_cons, List.sum_cons, cnt]
    omega
theorem out_len : ∀ (hs : List PK) (out : List Int), (hs.foldl (fun out p => bumps out p.2) out).length = out.length
  | [], _ => rfl
  | p :: hs, out => by rw [List.foldl_cons, out_len hs, Pr.bumps_len]
/-! ### Plain: the singles -/
open Pr (singL singL_mem)
theorem insF_perm (x : PK) : ∀ Z, (insF x Z).Perm (x :: Z)
  | [] => .refl _
  | y :: t => by
    unfold insF
    split
    · exact .refl _
    · exact ((insF_perm x t).cons y).trans (.swap x y t)
theorem isortF_perm : ∀ L : List PK, (isortF L).Perm L
  | [] => .refl _
  | x :: L => (insF_perm x _).trans ((isortF_perm L).cons x)
theorem sumF_cnt (x : Int) : ∀ L : List PK, sumF (cnt x) L = ((L.flatMap Prod.snd).count x : Int)
  | [] => rfl
  | p :: L => by
    have ih := sumF_cnt x L
    rw [List.flatMap_cons, List.count_append]
    simp only [sumF, List.map_cons, List.sum_cons, cnt] at ih ⊢
    omega
theorem sing_syms (l : List Int) (k : Nat) : (singL l k).flatMap Prod.snd = ((List.range k).filter (fun j => decide (l.getD j 0 > 0))).map (fun (j : Nat) => (j : Int)) := by
  induction k with
  | zero => rfl
  | succ k ih =>
    rw [Pr.singL_succ, List.range_succ, List.filter_append, List.map_append, ← ih]
    by_cases h : l.getD k 0 > 0
    · rw [if_pos h, List.flatMap_append, List.filter_cons_of_pos (by simpa using h)]
      rfl
    · rw [if_neg h, List.filter_cons_of_neg (by simpa using h)]
      simp
theorem sing_nodup (l : List Int) (k : Nat) : ((singL l k).flatMap Prod.snd).Nodup := by
  rw [sing_syms]
  refine List.Pairwise.map (R := fun a b => a ≠ b) _ (fun a b h e => h (by omega)) ?_
  exact (List.nodup_range).filter _
theorem srt_sing_nodup (l : List Int) (k : Nat) : ((isortF (singL l k)).flatMap Prod.snd).Nodup :=
  (((isortF_perm (singL l k)).flatMap_right Prod.snd).nodup_iff).2 (sing_nodup l k)
theorem take_cnt_le (l : List Int) (k s : Nat) (x : Int) : sumF (cnt x) ((isortF (singL l k)).take s) ≤ 1 := by
  rw [sumF_cnt]
  have h := srt_sing_nodup l k
  have h2 : (((isortF (singL l k)).take s).flatMap Prod.snd).Nodup := by
    rw [← List.take_append_drop s (isortF (singL l k)), List.flatMap_append] at h
    exact (List.nodup_append.1 h).1
  have := List.nodup_iff_count.1 h2 x
  omega
theorem cnt_nonneg (x : Int) (L : List PK) : 0 ≤ sumF (cnt x) L := by
  rw [sumF_cnt]
  omega
theorem sing_at {l : List Int} {i : Nat} (hi : i < l.length) (h : 0 < l.getD i 0) : (l.getD i 0, [(i : Int)]) ∈ isortF (singL l l.length) := by
  rw [(isortF_perm _).mem_iff]
  unfold singL
  rw [List.mem_filter]
  exact ⟨List.mem_map.2 ⟨i, List.mem_range.2 hi, rfl⟩, by simpa using h⟩
theorem sing_of {l : List Int} {p : PK} (h : p ∈ isortF (singL l l.length)) : ∃ j : Nat, j < l.length ∧ p = (l.getD j 0, [(j : Int)]) ∧ l.getD j 0 > 0 := singL_mem ((isortF_perm _).mem_iff.1 h)
/-- The rarer of two symbols is among the first ones wherever the other is. -/
theorem take_order {l : List Int} {i k : Nat} (hi : i < l.length) (hk : k < l.length) (h1 : l.getD i 0 > l.getD k 0) (h2 : l.getD k 0 > 0) (s : Nat) :
    sumF (cnt (i : Int)) ((isortF (singL l l.length)).take s) ≤ sumF (cnt (k : Int)) ((isortF (singL l l.length)).take s) := by
  by_cases hz : sumF (cnt (i : Int)) ((isortF (singL l l.length)).take s) = 0
  · rw [hz]
    exact cnt_nonneg _ _
  · have hle := take_cnt_le l l.length s (i : Int)
    have hin : (i : Int) ∈ ((isortF (singL l l.length)).take s).flatMap Prod.snd := by
      rw [sumF_cnt] at hz
      exact List.count_pos_iff.1 (by omega)
    obtain ⟨p, hp, hs⟩ := List.mem_flatMap.1 hin
    obtain ⟨j, hj, rfl, _⟩ := sing_of (List.mem_of_mem_take hp)
    have e : j = i := by have := List.mem_singleton.1 hs; omega
    subst e
    have hkS := sing_at hk h2
    rw [← List.take_append_drop s (isortF (singL l l.length))] at hkS
    have hkt : (l.getD k 0, [(k : Int)]) ∈ (isortF (singL l l.length)).take s := by
      rcases List.mem_append.1 hkS with h | h
      · exact h
      · exfalso
        have hsrt := (isortF_spec (singL l l.length)).1
        rw [← List.take_append_drop s (isortF (singL l l.length))] at hsrt
        have := (List.pairwise_append.1 hsrt).2.2 _ hp _ h
        unfold wP at this
        dsimp only at this
        omega
    have hc : (k : Int) ∈ ((isortF (singL l l.length)).take s).flatMap Prod.snd := List.mem_flatMap.2 ⟨_, hkt, by simp⟩
    have := List.count_pos_iff.2 hc
    rw [sumF_cnt (k : Int)]
    omega
/-! ### Plain: LimitOrder -/
open Pr (lenF oftenS haveF isortF isortF_spec singL zerosL bumps)
theorem lenF_ok {l : List Int} {most : Int} {r : List Int} (h : lenF l most = (0, r)) : oftenS l = true ∧ ∃ m : Nat, most = (m : Int) ∧ 1 ≤ m ∧ m ≤ 15 ∧ (singL l l.length).length ≤ 2 ^ m ∧
    ((singL l l.length = [] ∧ r = zerosL l) ∨ (∃ p, singL l l.length = [p] ∧ r = bumps (zerosL l) p.2) ∨
     (2 ≤ (singL l l.length).length ∧ r = ((haveF (isortF (singL l l.length)) m).take (2 * (singL l l.length).length - 2)).foldl (fun out p => bumps out p.2) (zerosL l))) := by
  unfold lenF at h
  by_cases h0 : ¬ (oftenS l = true ∧ 1 ≤ most ∧ most ≤ 15)
  · rw [if_pos h0] at h
    injection h with h _
    omega
  · rw [if_neg h0] at h
    rw [Decidable.not_not] at h0
    obtain ⟨h1, h2, h3⟩ := h0
    obtain ⟨m, rfl⟩ : ∃ m : Nat, most = (m : Int) := ⟨most.toNat, by omega⟩
    rw [Int.toNat_natCast] at h
    by_cases h4 : 2 ^ m < (singL l l.length).length
    · rw [if_pos h4] at h
      injection h with h _
      omega
    · rw [if_neg h4] at h
      refine ⟨h1, m, rfl, by omega, by omega, by omega, ?_⟩
      generalize singL l l.length = s at *
      match s, h with
      | [], h => exact .inl ⟨rfl, by injection h with _ h; exact h.symm⟩
      | [p], h => exact .inr (.inl ⟨p, rfl, by injection h with _ h; exact h.symm⟩)
      | a :: b :: t, h => exact .inr (.inr ⟨by simp, by injection h with _ h; exact h.symm⟩)
theorem lenF_bad {l : List Int} {most : Int} (h : (lenF l most).1 ≠ 0) : (lenF l most).2 = [] := by
  unfold lenF at h ⊢
  split
  · rfl
  · next h0 =>
    rw [if_neg h0] at h
    split
    · rfl
    · next h1 =>
      rw [if_neg h1] at h
      exfalso
      apply h
      split <;> rfl
theorem zeros_len (l : List Int) : (zerosL l).length = l.length := by unfold zerosL; rw [List.length_replicate]
theorem zeros_get (l : List Int) (i : Nat) : (zerosL l).getD i 0 = 0 := by
  unfold zerosL
  rw [List.getD_eq_getElem?_getD, List.getElem?_replicate]
  split <;> rfl
theorem lenF_len {l : List Int} {most : Int} {r : List Int} (h : lenF l most = (0, r)) : r.length = l.length := by
  obtain ⟨_, m, _, _, _, _, h | ⟨p, _, h⟩ | ⟨_, h⟩⟩ := lenF_ok h
  · rw [h.2, zeros_len]
  · rw [h, Pr.bumps_len, zeros_len]
  · rw [h, out_len, zeros_len]
theorem have_syms (l : List Int) (j : Nat) : ∀ p ∈ haveF (isortF (singL l l.length)) j, ∀ s ∈ p.2, 0 ≤ s := by
  induction j with
  | zero => intro p hp; cases hp
  | succ j ih =>
    intro p hp s hs
    have hp2 := (isortF_perm _).mem_iff.1 hp
    rcases List.mem_append.1 hp2 with hp2 | hp2
    · obtain ⟨k, _, rfl, _⟩ := sing_of hp2
      have := List.mem_singleton.1 hs
      omega
    · obtain ⟨x, hx, y, hy, rfl⟩ := pairP_mem hp2
      rcases List.mem_append.1 hs with hs | hs
      · exact ih x hx s hs
      · exact ih y hy s hs
theorem lenF_order {l : List Int} {most : Int} {r : List Int} (h : lenF l most = (0, r)) {i k : Nat} (hi : i < l.length) (hk : k < l.length) (h1 : l.getD i 0 > l.getD k 0) (h2 : l.getD k 0 > 0) : r.getD i 0 ≤ r.getD k 0 := by
  obtain ⟨_, m, _, _, _, hle, h | ⟨p, hp, h⟩ | ⟨hn, h⟩⟩ := lenF_ok h
  · rw [h.2, zeros_get, zeros_get]
    exact Int.le_refl _
  · exfalso
    have e1 := (isortF_perm _).mem_iff.1 (sing_at hi (by omega))
    have e2 := (isortF_perm _).mem_iff.1 (sing_at hk h2)
    rw [hp] at e1 e2
    have e1 := List.mem_singleton.1 e1
    have e2 := List.mem_singleton.1 e2
    rw [← e2] at e1
    injection e1 with e1 _
    omega
  · have hsy : ∀ p ∈ (haveF (isortF (singL l l.length)) m).take (2 * (singL l l.length).length - 2), ∀ s ∈ p.2, 0 ≤ s := fun p hp => have_syms l m p (List.mem_of_mem_take hp)
    rw [h, out_getD hsy (by rw [zeros_len]; exact hi), out_getD hsy (by rw [zeros_len]; exact hk), zeros_get, zeros_get]
    obtain ⟨M, hM, e⟩ : ∃ M, M ≤ (haveF (isortF (singL l l.length)) m).length ∧ (haveF (isortF (singL l l.length)) m).take (2 * (singL l l.length).length - 2) = (haveF (isortF (singL l l.length)) m).take M :=
      ⟨min (2 * (singL l l.length).length - 2) (haveF (isortF (singL l l.length)) m).length, by omega, by rw [← List.take_take, List.take_length]⟩
    obtain ⟨ss, _, hss⟩ := levels (isortF_spec (singL l l.length)).1 m M hM
    rw [e, hss _ (cnt_adds _), hss _ (cnt_adds _)]
    have : ∀ ss : List Nat, (ss.map (fun s => sumF (cnt (i : Int)) ((isortF (singL l l.length)).take s))).sum ≤ (ss.map (fun s => sumF (cnt (k : Int)) ((isortF (singL l l.length)).take s))).sum := by
      intro ss
      induction ss with
      | nil => exact Int.le_refl _
      | cons s ss ih =>
        have := take_order hi hk h1 h2 s
        simp only [List.map_cons, List.sum_cons]
        omega
    have := this ss
    omega
end Go.Proofs.Ytdgpcjhincgijaa.Pg

-- YtdgpcjhincgijaaLp2
namespace Go.Proofs.Ytdgpcjhincgijaa.Pg
open Go.RowKit Go.Proofs.YtdgpcjhincgijaaW.PrintWords Go.Proofs.YtdgpcjhincgijaaW.PrintLast
set_option linter.unusedVariables false
set_option linter.unusedSimpArgs false
open Pr (Srt Stb wP pairP isortF haveF insF sorted_isF isortF_spec srt_unique singL singL_mem bump bumps zerosL lenF oftenS)
theorem order_l1 (f r : List Int) (hf : f.length ≤ 288) (hr : r.length = f.length) (i : Nat) (hi : i < f.length) (ho : ∀ k : Nat, k < f.length → f.getD i 0 > f.getD k 0 → f.getD k 0 > 0 → r.getD i 0 ≤ r.getD k 0) : ∀ (n j k : Nat), j + n = f.length → n < k → valiselaw05_LimitOrder.l1 k f r (i : Int) (j : Int) = valiselaw05_LimitOrder.l0 (k - n - 1) f r ((i + 1 : Nat) : Int)
  | n, j, 0, _, hk => by omega
  | 0, j, k + 1, hj, _ => by
    rw [valiselaw05_LimitOrder.l1, if_neg (by omega), w_next (by omega)]
    rfl
  | n + 1, j, k + 1, hj, hk => by
    have ih := order_l1 f r hf hr i hi ho n (j + 1) k (by omega) (by omega)
    rw [show k + 1 - (n + 1) - 1 = k - n - 1 by omega]
    have e1 : rd f (i : Int) = f.getD i 0 := by unfold rd; rw [Int.toNat_natCast]
    have e2 : rd f (j : Int) = f.getD j 0 := by unfold rd; rw [Int.toNat_natCast]
    have e3 : rd r (i : Int) = r.getD i 0 := by unfold rd; rw [Int.toNat_natCast]
    have e4 : rd r (j : Int) = r.getD j 0 := by unfold rd; rw [Int.toNat_natCast]
    rw [valiselaw05_LimitOrder.l1, if_pos (by omega), if_pos (by omega), if_pos (by omega), if_pos (by omega), w_next (by omega), ih, e1, e2, e3, e4]
    by_cases h1 : f.getD i 0 > f.getD j 0
    · rw [if_pos h1]
      by_cases h2 : f.getD j 0 > 0
      · rw [if_pos h2, if_pos (by omega), if_pos (by omega), if_neg (by have := ho j (by omega) h1 h2; omega)]
      · rw [if_neg h2]
    · rw [if_neg h1]
theorem order_l0 (c d : Nat) (hc : 300 ≤ c) (hd : 100 ≤ d) (f r : List Int) (hf : f.length ≤ 288) (hr : r.length = f.length) (ho : ∀ i k : Nat, i < f.length → k < f.length → f.getD i 0 > f.getD k 0 → f.getD k 0 > 0 → r.getD i 0 ≤ r.getD k 0) : ∀ (n i k : Nat), i + n = f.length → n * c + d < k → valiselaw05_LimitOrder.l0 k f r (i : Int) = some true
  | n, i, 0, _, hk => by omega
  | 0, i, k + 1, hi, hk => by
    rw [Nat.zero_mul] at hk
    rw [valiselaw05_LimitOrder.l0, if_neg (by omega), lives_at (by omega)]
    rfl
  | n + 1, i, k + 1, hi, hk => by
    rw [Nat.succ_mul] at hk
    rw [valiselaw05_LimitOrder.l0, if_pos (by omega)]
    have h1 := order_l1 f r hf hr i (by omega) (fun k hk h1 h2 => ho i k (by omega) hk h1 h2) f.length 0 k (by omega) (by omega)
    rw [show ((0 : Nat) : Int) = 0 from rfl] at h1
    rw [h1]
    exact order_l0 c d hc hd f r hf hr ho n (i + 1) _ (by omega) (by omega)
theorem limitOrder_pure : valiselaw05_LimitOrder.Pure := by
  intro l0 a1 _ h1 _ _
  refine ⟨100000, ?_⟩
  unfold valiselaw05_LimitOrder.f limit_Lengths.f
  simp only [Option.bind_some]
  by_cases h : (lenF l0 a1).1 = 0
  · rw [if_pos h]
    have e : lenF l0 a1 = (0, (lenF l0 a1).2) := by rw [← h]
    have hl := lenF_len e
    rw [if_pos (by omega)]
    have hof := (lenF_ok e).1
    have hn : l0.length ≤ 288 := by
      unfold oftenS at hof
      rw [Bool.and_eq_true] at hof
      exact (of_decide_eq_true hof.1).2
    exact order_l0 300 100 (Nat.le_refl _) (Nat.le_refl _) l0 _ hn hl (fun i k hi hk => lenF_order e hi hk) l0.length 0 _ (by omega) (by omega)
  · rw [if_neg h, lenF_bad h]
    rw [if_pos (show (([] : List Int).length : Int) = 0 from rfl), lives_at (by omega)]
    rfl
end Go.Proofs.Ytdgpcjhincgijaa.Pg

-- YtdgpcjhincgijaaPureLimitOrder
namespace Go.Proofs.Ytdgpcjhincgijaa.Pure
theorem LimitOrder : Go.Proofs.Ytdgpcjhincgijaa.Pg.valiselaw05_LimitOrder.Pure := Go.Proofs.Ytdgpcjhincgijaa.Pg.limitOrder_pure
end Go.Proofs.Ytdgpcjhincgijaa.Pure

