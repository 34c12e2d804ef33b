-- Texts by hand and by programs of this session, joined (wip/tool/merge.py).
import Derived.Test.YtdgpcjhincgijaaMLT13
-- YtdgpcjhincgijaaLp5
namespace Go.Proofs.Ytdgpcjhincgijaa.Pg
open Go.RowKit Go.Proofs.YtdgpcjhincgijaaW.PrintWords Go.Proofs.YtdgpcjhincgijaaW.PrintLast Go.Proofs.YtdgpcjhincgijaaW.PrintMore
set_option linter.unusedVariables false
set_option linter.unusedSimpArgs false
open Pr (Srt Stb wP pairP isortF haveF insF sorted_isF isortF_spec srt_unique singL singL_mem bump bumps zerosL lenF oftenS)
/-! ### Plain: how many singles on each level, falling -/
def Pos (L : List PK) : Prop := ∀ p ∈ L, 0 < p.1
def Chain : List Nat → Nat → Prop
  | [], m => m = 0
  | s :: ss, m => ∃ p, s + p = m ∧ Chain ss (2 * p)
def Falls : Nat → List Nat → Prop
  | _, [] => True
  | b, s :: ss => s ≤ b ∧ Falls s ss
theorem pairP_pos {Y : List PK} (h : Pos Y) : Pos (pairP Y) := fun q hq => by
  obtain ⟨x, hx, y, hy, rfl⟩ := pairP_mem hq
  have h1 := h x hx
  have h2 := h y hy
  show 0 < x.1 + y.1
  omega
theorem have_pos {S : List PK} (hS : Pos S) : ∀ j, Pos (haveF S j)
  | 0 => fun p hp => by cases hp
  | j + 1 => fun p hp => by
    rcases List.mem_append.1 ((isortF_perm _).mem_iff.1 hp) with h | h
    · exact hS p h
    · exact pairP_pos (have_pos hS j) p h
theorem take_pair : ∀ (p : Nat) (Y : List PK), Pos Y → p ≤ Y.length / 2 → ∀ y ∈ Y.take (2 * p), ∃ q ∈ (pairP Y).take p, y.1 < q.1
  | 0, _, _, _, y, hy => by simp at hy
  | p + 1, [], _, h, _, _ => by simp at h
  | p + 1, [_], _, h, _, _ => by simp at h
  | p + 1, a :: b :: t, hp, h, y, hy => by
    have ha := hp a (by simp)
    have hb := hp b (by simp)
    rw [show 2 * (p + 1) = 2 * p + 1 + 1 by omega, List.take_succ_cons, List.take_succ_cons] at hy
    rw [pairP, List.take_succ_cons]
    rcases List.mem_cons.1 hy with rfl | hy
    · exact ⟨_, List.mem_cons_self, show y.1 < y.1 + b.1 by omega⟩
    · rcases List.mem_cons.1 hy with rfl | hy
      · exact ⟨_, List.mem_cons_self, show y.1 < a.1 + y.1 by omega⟩
      · obtain ⟨q, hq, hl⟩ := take_pair p t (fun x hx => hp x (by simp [hx])) (by simp at h; omega) y hy
        exact ⟨q, List.mem_cons_of_mem _ hq, hl⟩
/-- As `levels`, with what is known of the numbers. -/
theorem levels2 {S : List PK} (hS : Srt wP S) (hP : Pos S) : ∀ (j m b : Nat), m ≤ (haveF S j).length → (∀ x ∈ S.drop b, ∀ y ∈ (haveF S j).take m, y.1 < x.1) → ∃ ss : List Nat, ss.length = j ∧ Chain ss m ∧ Falls b ss ∧ (∀ s ∈ ss, s ≤ S.length) ∧ ∀ φ, Adds φ → sumF φ ((haveF S j).take m) = (ss.map (fun s => sumF φ (S.take s))).sum
  | 0, m, b, hm, _ => ⟨[], rfl, by simpa [haveF, Chain] using hm, trivial, by simp, fun φ _ => by simp [haveF, sumF]⟩
  | j + 1, m, b, hm, hb => by
    have hl : (mergeF S (pairP (haveF S j))).length = S.length + (pairP (haveF S j)).length := by rw [(mergeF_perm _ _).length_eq, List.length_append]
    rw [haveF_succ hS] at hm hb ⊢
    obtain ⟨s, p, e1, e2, e3, e4, _, e6⟩ := mergeF_take S (pairP (haveF S j)) m (by rw [← hl]; exact hm) hS (pairP_srt (haveF_srt S j))
    have hsb : s ≤ b := by
      refine Nat.le_of_not_lt fun hlt => ?_
      have hbl : b < S.length := by omega
      have h1 : S[b] ∈ S.drop b := by
        rw [List.drop_eq_getElem_cons hbl]
        exact List.mem_cons_self
      have h2 : S[b] ∈ S.take s := by
        have h3 : (S.take s)[b]'(by rw [List.length_take]; omega) = S[b] := List.getElem_take
        rw [← h3]
        exact List.getElem_mem _
      have := hb _ h1 _ (e4.mem_iff.2 (List.mem_append_left _ h2))
      omega
    rw [Pr.pairP_len] at e2
    obtain ⟨ss, h1, h2, h3, h5, h4⟩ := levels2 hS hP j (2 * p) s (by omega) (fun x hx y hy => by
      obtain ⟨q, hq, hl⟩ := take_pair p _ (have_pos hP j) e2 y hy
      have := e6 q hq x hx
      omega)
    refine ⟨s :: ss, by rw [List.length_cons, h1], ⟨p, e3, h2⟩, ⟨hsb, h3⟩, fun t ht => ?_, fun φ hφ => ?_⟩
    · rcases List.mem_cons.1 ht with rfl | ht
      · exact e1
      · exact h5 t ht
    · rw [sumF_perm e4, sumF_append, pair_take hφ p _ e2, h4 φ hφ, List.map_cons, List.sum_cons]
theorem chain_big : ∀ (ss : List Nat) (m c : Nat), Falls c ss → Chain ss m → 2 * c ≤ m → m = 0
  | [], m, c, _, h, _ => h
  | s :: ss, m, c, ⟨h1, h2⟩, ⟨p, h3, h4⟩, h5 => by
    have := chain_big ss (2 * p) s h2 h4 (by omega)
    omega
/-! ### Plain: how long the levels are -/
theorem have_len_succ (S : List PK) (j : Nat) : (haveF S (j + 1)).length = S.length + (haveF S j).length / 2 := by
  show (isortF (S ++ pairP (haveF S j))).length = _
  rw [(isortF_perm _).length_eq, List.length_append, Pr.pairP_len]
theorem have_len {S : List PK} {m : Nat} (h : S.length ≤ 2 ^ m) : ∀ j, j ≤ m + 1 → 2 * S.length ≤ (haveF S j).length + 2 ^ (m + 1 - j)
  | 0, _ => by
    have : 2 ^ (m + 1) = 2 * 2 ^ m := by rw [Nat.pow_succ, Nat.mul_comm]
    rw [Nat.sub_zero]
    omega
  | j + 1, hj => by
    have ih := have_len h j (by omega)
    rw [have_len_succ]
    have : 2 ^ (m + 1 - j) = 2 * 2 ^ (m + 1 - (j + 1)) := by rw [show m + 1 - j = m + 1 - (j + 1) + 1 by omega, Nat.pow_succ, Nat.mul_comm]
    omega
theorem have_enough {S : List PK} {m : Nat} (h : S.length ≤ 2 ^ m) : 2 * S.length - 2 ≤ (haveF S m).length := by
  have := have_len h m (by omega)
  rw [show m + 1 - m = 1 by omega] at this
  omega
/-! ### Plain: Kraft's sum -/
def cs (ss : List Nat) (t : Nat) : Nat := (ss.map (fun s => if t < s then 1 else 0)).sum
theorem cs_le (t : Nat) : ∀ ss : List Nat, cs ss t ≤ ss.length
  | [] => Nat.le_refl _
  | s :: ss => by
    have := cs_le t ss
    unfold cs at this ⊢
    rw [List.map_cons, List.sum_cons, List.length_cons]
    split <;> omega
theorem cs_zero {t : Nat} : ∀ {ss : List Nat} {b : Nat}, Falls b ss → b ≤ t → cs ss t = 0
  | [], _, _, _ => rfl
  | s :: ss, b, ⟨h1, h2⟩, hb => by
    have := cs_zero h2 (show s ≤ t by omega)
    unfold cs at this ⊢
    rw [List.map_cons, List.sum_cons, this, if_neg (by omega)]
theorem cs_cons (s : Nat) (ss : List Nat) (t : Nat) : cs (s :: ss) t = (if t < s then 1 else 0) + cs ss t := by
  unfold cs
  rw [List.map_cons, List.sum_cons]
def takesT (e : Nat) (ss : List Nat) (N : Nat) : Nat := ((List.range N).map (fun t => 2 ^ (e - cs ss t))).sum
theorem takesT_succ (e : Nat) (ss : List Nat) (N : Nat) : takesT e ss (N + 1) = takesT e ss N + 2 ^ (e - cs ss N) := by
  unfold takesT
  rw [List.range_succ, List.map_append, List.sum_append]
  simp
theorem takesT_lo (e s : Nat) (ss : List Nat) : ∀ N, N ≤ s → takesT (e + 1) (s :: ss) N = takesT e ss N
  | 0, _ => rfl
  | N + 1, h => by
    rw [takesT_succ, takesT_succ, takesT_lo e s ss N (by omega), cs_cons, if_pos (by omega), show e + 1 - (1 + cs ss N) = e - cs ss N by omega]
theorem takesT_cons {e s : Nat} {ss : List Nat} (h : Falls s ss) : ∀ d, takesT (e + 1) (s :: ss) (s + d) = takesT e ss s + d * 2 ^ (e + 1)
  | 0 => by
    show takesT (e + 1) (s :: ss) s = _
    rw [takesT_lo e s ss s (Nat.le_refl _), Nat.zero_mul, Nat.add_zero]
  | d + 1 => by
    rw [show s + (d + 1) = s + d + 1 by omega, takesT_succ, takesT_cons h d, cs_cons, if_neg (by omega), cs_zero h (by omega), Nat.succ_mul, Nat.add_zero, Nat.sub_zero, Nat.add_assoc]
theorem kraft : ∀ (ss : List Nat) (e N m : Nat), Falls N ss → ss.length ≤ e → Chain ss m → 2 * takesT e ss N + 2 ^ e * m = 2 ^ (e + 1) * N
  | [], e, N, m, _, _, hm => by
    obtain rfl : m = 0 := hm
    have : ∀ N, takesT e [] N = N * 2 ^ e := by
      intro N
      induction N with
      | zero => rw [Nat.zero_mul]; rfl
      | succ N ih => rw [takesT_succ, ih, Nat.succ_mul]; rfl
    rw [this, Nat.mul_zero, Nat.add_zero, Nat.pow_succ, Nat.mul_comm N, Nat.mul_comm _ 2, Nat.mul_assoc]
  | s :: ss, 0, N, m, _, h, _ => by simp at h
  | s :: ss, e + 1, N, m, ⟨h1, h2⟩, hl, ⟨p, h3, h4⟩ => by
    obtain ⟨d, rfl⟩ : ∃ d, N = s + d := ⟨N - s, by omega⟩
    have ih := kraft ss e s (2 * p) h2 (by simp at hl; omega) h4
    subst h3
    rw [takesT_cons h2 d]
    have e1 : 2 ^ (e + 1) = 2 * 2 ^ e := by rw [Nat.pow_succ, Nat.mul_comm]
    have e2 : 2 ^ (e + 1 + 1) = 4 * 2 ^ e := by rw [Nat.pow_succ, e1]; omega
    rw [e1] at ih ⊢
    rw [e2]
    generalize 2 ^ e = E at *
    rw [Nat.mul_add, Nat.mul_add, Nat.mul_add, Nat.mul_assoc, Nat.mul_assoc, Nat.mul_assoc, Nat.mul_assoc, Nat.mul_left_comm d 2 E, Nat.mul_comm d E]
    rw [Nat.mul_left_comm E 2 p, Nat.mul_assoc] at ih
    generalize E * s = a at *
    generalize E * p = b at *
    generalize E * d = c at *
    omega
/-! ### Plain: the first ones are the least -/
theorem least_take : ∀ (L Q R : List PK), Srt wP L → L.Perm (Q ++ R) → sumF wP (L.take Q.length) ≤ sumF wP Q
  | [], Q, R, _, h => by
    obtain ⟨rfl, _⟩ := List.append_eq_nil_iff.1 (List.nil_perm.1 h)
    simp [sumF]
  | x :: L, Q, R, hs, h => by
    obtain ⟨c1, d1⟩ := List.pairwise_cons.1 hs
    have hx : x ∈ Q ++ R := h.mem_iff.1 List.mem_cons_self
    rcases List.mem_append.1 hx with hx | hx
    · obtain ⟨Q1, Q2, rfl⟩ := List.append_of_mem hx
      have h2 : L.Perm (Q1 ++ Q2 ++ R) := by
        refine List.Perm.cons_inv (a := x) (h.trans ?_)
        rw [List.append_assoc, List.append_assoc]
        exact List.perm_middle
      have ih := least_take L (Q1 ++ Q2) R d1 h2
      rw [List.length_append] at ih
      rw [List.length_append, List.length_cons, ← Nat.add_assoc, List.take_succ_cons]
      simp only [sumF, List.map_append, List.sum_append, List.map_cons, List.sum_cons] at ih ⊢
      omega
    · obtain ⟨R1, R2, rfl⟩ := List.append_of_mem hx
      match Q, h with
      | [], _ => simp [sumF]
      | q :: Q, h =>
        have h2 : L.Perm (Q ++ (q :: (R1 ++ R2))) := by
          refine List.Perm.cons_inv (a := x) (h.trans ?_)
          have h3 : (q :: Q ++ (R1 ++ x :: R2)).Perm (x :: (q :: Q ++ (R1 ++ R2))) := by
            rw [← List.append_assoc, ← List.append_assoc]
            exact List.perm_middle
          refine h3.trans (List.Perm.cons x ?_)
          exact (List.perm_middle (l₁ := Q)).symm
        have ih := least_take L Q (q :: (R1 ++ R2)) d1 h2
        have hq : x.1 ≤ q.1 := by
          have : q ∈ L := h2.mem_iff.2 (by simp)
          exact c1 q this
        rw [List.length_cons, List.take_succ_cons]
        simp only [sumF, List.map_cons, List.sum_cons] at ih ⊢
        unfold wP at *
        omega
theorem merge_least {a b : List PK} (ha : Srt wP a) (hb : Srt wP b) {s p : Nat} (hs : s ≤ a.length) (hp : p ≤ b.length) : sumF wP ((mergeF a b).take (s + p)) ≤ sumF wP (a.take s) + sumF wP (b.take p) := by
  have h := least_take (mergeF a b) (a.take s ++ b.take p) (a.drop s ++ b.drop p) (mergeF_srt a b ha hb) (by
    refine (mergeF_perm a b).trans ?_
    have h1 : (a ++ b) = (a.take s ++ a.drop s) ++ (b.take p ++ b.drop p) := by rw [List.take_append_drop, List.take_append_drop]
    rw [h1, List.append_assoc, List.append_assoc]
    refine List.Perm.append_left _ ?_
    rw [← List.append_assoc, ← List.append_assoc]
    exact List.Perm.append_right _ List.perm_append_comm)
  rw [List.length_append, List.length_take, List.length_take, Nat.min_eq_left hs, Nat.min_eq_left hp, sumF_append] at h
  exact h
theorem sum_nonneg {L : List PK} (h : Pos L) : 0 ≤ sumF wP L := by
  induction L with
  | nil => exact Int.le_refl _
  | cons x L ih =>
    have h1 := ih (fun p hp => h p (List.mem_cons_of_mem _ hp))
    have h2 := h x List.mem_cons_self
    simp only [sumF, List.map_cons, List.sum_cons, wP] at h1 ⊢
    omega
theorem take_mono {L : List PK} (h : Pos L) {a b : Nat} (hab : a ≤ b) : sumF wP (L.take a) ≤ sumF wP (L.take b) := by
  have e : L.take b = L.take a ++ (L.take b).drop a := by
    have := (List.take_append_drop a (L.take b)).symm
    rwa [List.take_take, Nat.min_eq_left hab] at this
  rw [e, sumF_append]
  have := sum_nonneg (L := (L.take b).drop a) (fun p hp => h p (List.mem_of_mem_take (List.mem_of_mem_drop hp)))
  omega
/-! ### Plain: no coins that suffice weigh less -/
def wid : List Nat → Nat
  | [] => 0
  | q :: qs => q * 2 ^ (qs.length + 1) + wid qs
theorem sums_nonneg {S : List PK} (hP : Pos S) : ∀ qs : List Nat, 0 ≤ (qs.map (fun q => sumF wP (S.take q))).sum
  | [] => Int.le_refl _
  | q :: qs => by
    have h1 := sums_nonneg hP qs
    have h2 := sum_nonneg (L := S.take q) (fun p hp => hP p (List.mem_of_mem_take hp))
    rw [List.map_cons, List.sum_cons]
    omega
theorem buys {S : List PK} (hS : Srt wP S) (hP : Pos S) : ∀ (qs : List Nat) (M : Nat), (∀ q ∈ qs, q ≤ S.length) → M * 2 ^ qs.length ≤ wid qs → M ≤ (haveF S qs.length).length ∧ sumF wP ((haveF S qs.length).take M) ≤ (qs.map (fun q => sumF wP (S.take q))).sum
  | [], M, _, h => by
    have h : M ≤ 0 := by simpa [wid] using h
    obtain rfl : M = 0 := by omega
    simp [sumF]
  | q :: qs, M, hq, h => by
    rw [List.length_cons] at h ⊢
    have q1 := hq q List.mem_cons_self
    have hb := pairP_srt (haveF_srt S qs.length)
    have h0 := sums_nonneg hP qs
    rw [List.map_cons, List.sum_cons]
    by_cases hM : M ≤ q
    · refine ⟨by rw [have_len_succ]; omega, ?_⟩
      rw [haveF_succ hS]
      have h1 := merge_least hS hb (s := M) (p := 0) (by omega) (Nat.zero_le _)
      have h2 := take_mono hP hM
      have h3 : sumF wP (List.take 0 (pairP (haveF S qs.length))) = 0 := by simp [sumF]
      rw [Nat.add_zero] at h1
      omega
    · obtain ⟨p, rfl⟩ : ∃ p, M = q + p := ⟨M - q, by omega⟩
      have h1 : 2 * p * 2 ^ qs.length ≤ wid qs := by
        unfold wid at h
        rw [Nat.pow_succ, Nat.mul_comm _ 2, Nat.add_mul] at h
        rw [Nat.mul_comm 2 p, Nat.mul_assoc]
        omega
      obtain ⟨h2, h3⟩ := buys hS hP qs (2 * p) (fun x hx => hq x (List.mem_cons_of_mem _ hx)) h1
      have e2 : p ≤ (haveF S qs.length).length / 2 := by omega
      refine ⟨by rw [have_len_succ]; omega, ?_⟩
      rw [haveF_succ hS]
      have h4 := merge_least hS hb (s := q) (p := p) q1 (by rw [Pr.pairP_len]; exact e2)
      rw [pair_take wP_adds p _ e2] at h4
      omega
/-! ### Plain: sums by number -/
def sm : Nat → (Nat → Int) → Int
  | 0, _ => 0
  | n + 1, F => sm n F + F n
theorem sm_congr {F G : Nat → Int} : ∀ {n : Nat}, (∀ t, t < n → F t = G t) → sm n F = sm n G
  | 0, _ => rfl
  | n + 1, h => by
    show sm n F + F n = sm n G + G n
    rw [sm_congr (n := n) (fun t ht => h t (by omega)), h n (by omega)]
theorem sm_add (F G : Nat → Int) : ∀ n, sm n (fun t => F t + G t) = sm n F + sm n G
  | 0 => rfl
  | n + 1 => by
    have := sm_add F G n
    show sm n _ + (F n + G n) = (sm n F + F n) + (sm n G + G n)
    omega
theorem sm_zero : ∀ n, sm n (fun _ => 0) = 0
  | 0 => rfl
  | n + 1 => by
    show sm n _ + 0 = 0
    rw [sm_zero n]
    rfl
theorem sm_shift (F : Nat → Int) : ∀ n, sm (n + 1) F = F 0 + sm n (fun t => F (t + 1))
  | 0 => by show 0 + F 0 = F 0 + 0; omega
  | n + 1 => by
    have := sm_shift F n
    show sm (n + 1) F + F (n + 1) = F 0 + (sm n (fun t => F (t + 1)) + F (n + 1))
    omega
theorem sm_list {α : Type} (G : α → Int) (d : α) : ∀ L : List α, (L.map G).sum = sm L.length (fun t => G (L.getD t d))
  | [] => rfl
  | x :: L => by
    rw [List.map_cons, List.sum_cons, List.length_cons, sm_shift, sm_list G d L]
    rfl
theorem sm_cut (F : Nat → Int) (s : Nat) : ∀ d, sm (s + d) (fun t => if t < s then F t else 0) = sm s F
  | 0 => sm_congr (fun t ht => if_pos ht)
  | d + 1 => by
    show sm (s + d) _ + (if s + d < s then F (s + d) else 0) = _
    rw [sm_cut F s d, if_neg (by omega)]
    omega
theorem sm_take {S : List PK} {s : Nat} (h : s ≤ S.length) : sumF wP (S.take s) = sm s (fun t => (S.getD t (0, [])).1) := by
  unfold sumF
  rw [sm_list wP (0, []), List.length_take, Nat.min_eq_left h]
  refine sm_congr fun t ht => ?_
  unfold wP
  rw [List.getD_eq_getElem?_getD, List.getD_eq_getElem?_getD, List.getElem?_take, if_pos ht]
theorem cost_rank {S : List PK} : ∀ {ss : List Nat}, (∀ s ∈ ss, s ≤ S.length) → sm S.length (fun t => (S.getD t (0, [])).1 * (cs ss t : Int)) = (ss.map (fun s => sumF wP (S.take s))).sum
  | [], _ => by
    rw [List.map_nil, List.sum_nil]
    exact (sm_congr (fun t _ => Int.mul_zero _)).trans (sm_zero _)
  | s :: ss, h => by
    have ih := cost_rank (ss := ss) (fun x hx => h x (List.mem_cons_of_mem _ hx))
    have h1 := h s List.mem_cons_self
    obtain ⟨d, hd⟩ : ∃ d, S.length = s + d := ⟨S.length - s, by omega⟩
    have e : sm S.length (fun t => (S.getD t (0, [])).1 * (cs (s :: ss) t : Int)) = sm S.length (fun t => (if t < s then (S.getD t (0, [])).1 else 0) + (S.getD t (0, [])).1 * (cs ss t : Int)) := by
      refine sm_congr fun t _ => ?_
      rw [cs_cons]
      split
      · rw [Int.natCast_add, Int.mul_add]
        show _ * 1 + _ = _
        rw [Int.mul_one]
      · rw [Nat.zero_add, Int.zero_add]
    rw [e, sm_add, ih, List.map_cons, List.sum_cons, sm_take h1, hd, sm_cut]
/-! ### Plain: the symbols by their ranks -/
def symOf (S : List PK) (t : Nat) : Nat := ((S.getD t (0, [])).2.headD 0).toNat
theorem sing_sum (l : List Int) (H : Nat → Int) : ∀ k, ((singL l k).map (fun p => H (p.2.headD 0).toNat)).sum = sm k (fun i => if l.getD i 0 > 0 then H i else 0)
  | 0 => rfl
  | k + 1 => by
    have ih := sing_sum l H k
    rw [Pr.singL_succ]
    show _ = sm k _ + (if l.getD k 0 > 0 then H k else 0)
    by_cases h : l.getD k 0 > 0
    · rw [if_pos h, if_pos h, List.map_append, List.sum_append, ih]
      simp
    · rw [if_neg h, if_neg h, ih, Int.add_zero]
theorem perm_sum {a b : List Int} (h : a.Perm b) : a.sum = b.sum := by
  induction h with
  | nil => rfl
  | cons x _ ih => rw [List.sum_cons, List.sum_cons, ih]
  | swap x y l => simp only [List.sum_cons]; omega
  | trans _ _ i1 i2 => exact i1.trans i2
theorem by_rank (l : List Int) (H : Nat → Int) : sm l.length (fun i => if l.getD i 0 > 0 then H i else 0) = sm (singL l l.length).length (fun t => H (symOf (isortF (singL l l.length)) t)) := by
  rw [← sing_sum, ← perm_sum ((isortF_perm (singL l l.length)).map _), sm_list _ ((0 : Int), ([] : List Int)), (isortF_perm (singL l l.length)).length_eq]
  rfl
theorem rank_of {l : List Int} {t : Nat} (ht : t < (singL l l.length).length) : ∃ i : Nat, i < l.length ∧ (isortF (singL l l.length)).getD t (0, []) = (l.getD i 0, [(i : Int)]) ∧ l.getD i 0 > 0 := by
  rw [← (isortF_perm (singL l l.length)).length_eq] at ht
  rw [List.getD_eq_getElem?_getD, List.getElem?_eq_getElem ht]
  exact sing_of (List.getElem_mem ht)
theorem rank_at {l : List Int} {i : Nat} (hi : i < l.length) (h : l.getD i 0 > 0) : ∃ t, t < (singL l l.length).length ∧ (isortF (singL l l.length)).getD t (0, []) = (l.getD i 0, [(i : Int)]) := by
  obtain ⟨t, ht, e⟩ := List.getElem_of_mem (sing_at hi h)
  refine ⟨t, by rwa [(isortF_perm _).length_eq] at ht, ?_⟩
  rw [List.getD_eq_getElem?_getD, List.getElem?_eq_getElem ht, e]
  rfl
theorem cnt_one {l : List Int} {t i : Nat} {v : Int} (ht : t < (singL l l.length).length) (e : (isortF (singL l l.length)).getD t (0, []) = (v, [(i : Int)])) (s : Nat) : sumF (cnt (i : Int)) ((isortF (singL l l.length)).take s) = (((if t < s then 1 else 0 : Nat)) : Int) := by
  have hle := take_cnt_le l l.length s (i : Int)
  have hnd := srt_sing_nodup l l.length
  rw [← (isortF_perm (singL l l.length)).length_eq] at ht
  generalize isortF (singL l l.length) = S at *
  rw [List.getD_eq_getElem?_getD, List.getElem?_eq_getElem ht] at e
  have e : S[t] = (v, [(i : Int)]) := e
  by_cases h : t < s
  · rw [if_pos h]
    have hm : S[t] ∈ S.take s := by
      have h3 : (S.take s)[t]'(by rw [List.length_take]; omega) = S[t] := List.getElem_take
      rw [← h3]
      exact List.getElem_mem _
    rw [e] at hm
    have hc : (i : Int) ∈ (S.take s).flatMap Prod.snd := List.mem_flatMap.2 ⟨_, hm, by simp⟩
    have := List.count_pos_iff.2 hc
    rw [sumF_cnt] at hle ⊢
    omega
  · rw [if_neg h]
    have hm : S[t] ∈ S.drop s := by
      have h3 : (S.drop s)[t - s]'(by rw [List.length_drop]; omega) = S[t] := by
        rw [List.getElem_drop]
        congr 1
        omega
      rw [← h3]
      exact List.getElem_mem _
    rw [e] at hm
    have hc : (i : Int) ∈ (S.drop s).flatMap Prod.snd := List.mem_flatMap.2 ⟨_, hm, by simp⟩
    rw [← List.take_append_drop s S, List.flatMap_append] at hnd
    have hd := (List.nodup_append.1 hnd).2.2
    have hz : ¬ (i : Int) ∈ (S.take s).flatMap Prod.snd := fun hx => hd _ hx _ hc rfl
    rw [sumF_cnt, List.count_eq_zero.2 hz]
theorem cnt_rank {l : List Int} {t i : Nat} {v : Int} (ht : t < (singL l l.length).length) (e : (isortF (singL l l.length)).getD t (0, []) = (v, [(i : Int)])) : ∀ ss : List Nat, (ss.map (fun s => sumF (cnt (i : Int)) ((isortF (singL l l.length)).take s))).sum = (cs ss t : Int)
  | [] => rfl
  | s :: ss => by
    have ih := cnt_rank ht e ss
    rw [List.map_cons, List.sum_cons, ih, cnt_one ht e, cs_cons]
    omega
theorem cnt_none {l : List Int} {i : Nat} (h : ¬ l.getD i 0 > 0) (s : Nat) : sumF (cnt (i : Int)) ((isortF (singL l l.length)).take s) = 0 := by
  rw [sumF_cnt]
  have : ¬ (i : Int) ∈ ((isortF (singL l l.length)).take s).flatMap Prod.snd := fun hx => by
    obtain ⟨p, hp, hs⟩ := List.mem_flatMap.1 hx
    obtain ⟨j, hj, rfl, h2⟩ := sing_of (List.mem_of_mem_take hp)
    have : j = i := by have := List.mem_singleton.1 hs; omega
    subst this
    exact h h2
  rw [List.count_eq_zero.2 this]
  rfl
theorem cnt_nones {l : List Int} {i : Nat} (h : ¬ l.getD i 0 > 0) : ∀ ss : List Nat, (ss.map (fun s => sumF (cnt (i : Int)) ((isortF (singL l l.length)).take s))).sum = 0
  | [] => rfl
  | s :: ss => by rw [List.map_cons, List.sum_cons, cnt_nones h ss, cnt_none h]; rfl
theorem sing_pos (l : List Int) : Pos (isortF (singL l l.length)) := fun p hp => by
  obtain ⟨j, _, rfl, h⟩ := sing_of hp
  exact h
/-- The lengths of two symbols and more: by the numbers of singles on the levels. -/
structure Told (l : List Int) (m : Nat) (r : List Int) (ss : List Nat) : Prop where
  len : ss.length = m
  rlen : r.length = l.length
  chain : Chain ss (2 * (singL l l.length).length - 2)
  falls : Falls (singL l l.length).length ss
  bound : ∀ s ∈ ss, s ≤ (singL l l.length).length
  head : ∃ rest, ss = (singL l l.length).length :: rest
  zero : ∀ i, i < l.length → ¬ l.getD i 0 > 0 → r.getD i 0 = 0
  rank : ∀ t i : Nat, t < (singL l l.length).length → (isortF (singL l l.length)).getD t (0, []) = (l.getD i 0, [(i : Int)]) → i < l.length → r.getD i 0 = (cs ss t : Int)
  sum : sumF wP ((haveF (isortF (singL l l.length)) m).take (2 * (singL l l.length).length - 2)) = (ss.map (fun s => sumF wP ((isortF (singL l l.length)).take s))).sum
theorem lenF_many {l : List Int} {most : Int} {r : List Int} (h : lenF l most = (0, r)) (hn : 2 ≤ (singL l l.length).length) : ∃ m : Nat, most = (m : Int) ∧ 1 ≤ m ∧ m ≤ 15 ∧ (singL l l.length).length ≤ 2 ^ m ∧ r = ((haveF (isortF (singL l l.length)) m).take (2 * (singL l l.length).length - 2)).foldl (fun out p => bumps out p.2) (zerosL l) := by
  obtain ⟨_, m, e, h1, h2, hle, h3 | ⟨p, hp, _⟩ | ⟨_, hr⟩⟩ := lenF_ok h
  · rw [h3.1] at hn
    simp at hn
  · rw [hp] at hn
    simp at hn
  · exact ⟨m, e, h1, h2, hle, hr⟩
theorem told_getD {l : List Int} {m M : Nat} {i : Nat} (hi : i < l.length) : (((haveF (isortF (singL l l.length)) m).take M).foldl (fun out p => bumps out p.2) (zerosL l)).getD i 0 = sumF (cnt (i : Int)) ((haveF (isortF (singL l l.length)) m).take M) := by
  rw [out_getD (fun p hp => have_syms l m p (List.mem_of_mem_take hp)) (by rw [zeros_len]; exact hi), zeros_get, Int.zero_add]
theorem lenF_told {l : List Int} {most : Int} {r : List Int} (h : lenF l most = (0, r)) (hn : 2 ≤ (singL l l.length).length) : ∃ (m : Nat) (ss : List Nat), most = (m : Int) ∧ 1 ≤ m ∧ m ≤ 15 ∧ (singL l l.length).length ≤ 2 ^ m ∧ Told l m r ss := by
  obtain ⟨m, e, h1, h2, hle, hr⟩ := lenF_many h hn
  have hS := (isortF_spec (singL l l.length)).1
  have hln : (isortF (singL l l.length)).length = (singL l l.length).length := (isortF_perm _).length_eq
  have he : 2 * (singL l l.length).length - 2 ≤ (haveF (isortF (singL l l.length)) m).length := by
    have := have_enough (S := isortF (singL l l.length)) (m := m) (by rw [hln]; exact hle)
    rwa [hln] at this
  obtain ⟨ss, c1, c2, c3, c4, c5⟩ := levels2 hS (sing_pos l) m _ (singL l l.length).length he (by rw [← hln, List.drop_length]; intro x hx; cases hx)
  refine ⟨m, ss, e, h1, h2, hle, c1, lenF_len h, c2, c3, fun s hs => by rw [← hln]; exact c4 s hs, ?_, ?_, ?_, c5 wP wP_adds⟩
  · match ss, c1, c2, c3 with
    | [], c1, _, _ => simp at c1; omega
    | s :: rest, _, c2, c3 =>
      by_cases hs : s = (singL l l.length).length
      · exact ⟨rest, by rw [hs]⟩
      · exfalso
        have := chain_big (s :: rest) _ ((singL l l.length).length - 1) ⟨by have := c3.1; omega, c3.2⟩ c2 (by omega)
        omega
  · intro i hi hz
    rw [hr, told_getD hi, c5 _ (cnt_adds _), cnt_nones hz]
  · intro t i ht hti hi
    rw [hr, told_getD hi, c5 _ (cnt_adds _), cnt_rank ht hti]
theorem Told.pos {l : List Int} {m : Nat} {r : List Int} {ss : List Nat} (h : Told l m r ss) {t : Nat} (ht : t < (singL l l.length).length) : 1 ≤ cs ss t ∧ cs ss t ≤ m := by
  obtain ⟨rest, e⟩ := h.head
  have := cs_le t ss
  refine ⟨?_, by rw [h.len] at this; exact this⟩
  rw [e, cs_cons, if_pos ht]
  omega
theorem Told.used {l : List Int} {m : Nat} {r : List Int} {ss : List Nat} (h : Told l m r ss) {i : Nat} (hi : i < l.length) (hp : l.getD i 0 > 0) : 1 ≤ r.getD i 0 ∧ r.getD i 0 ≤ m := by
  obtain ⟨t, ht, e⟩ := rank_at hi hp
  have h1 := h.rank t i ht e hi
  have h2 := h.pos ht
  omega
theorem Told.all {l : List Int} {m : Nat} {r : List Int} {ss : List Nat} (h : Told l m r ss) {i : Nat} (hi : i < l.length) : 0 ≤ r.getD i 0 ∧ r.getD i 0 ≤ m := by
  by_cases hp : l.getD i 0 > 0
  · have := h.used hi hp
    omega
  · have := h.zero i hi hp
    omega
theorem Told.symOf {l : List Int} {m : Nat} {r : List Int} {ss : List Nat} (h : Told l m r ss) {t : Nat} (ht : t < (singL l l.length).length) : r.getD (symOf (isortF (singL l l.length)) t) 0 = (cs ss t : Int) ∧ l.getD (Pg.symOf (isortF (singL l l.length)) t) 0 = ((isortF (singL l l.length)).getD t (0, [])).1 := by
  obtain ⟨i, hi, e, _⟩ := rank_of ht
  have e2 : Pg.symOf (isortF (singL l l.length)) t = i := by
    unfold Pg.symOf
    rw [e]
    rfl
  rw [e2, e]
  exact ⟨h.rank t i ht e hi, rfl⟩
/-- What the lengths cost. -/
theorem Told.cost {l : List Int} {m : Nat} {r : List Int} {ss : List Nat} (h : Told l m r ss) (hl : ∀ i, i < l.length → 0 ≤ l.getD i 0) : sm l.length (fun i => l.getD i 0 * r.getD i 0) = sumF wP ((haveF (isortF (singL l l.length)) m).take (2 * (singL l l.length).length - 2)) := by
  have e : sm l.length (fun i => l.getD i 0 * r.getD i 0) = sm l.length (fun i => if l.getD i 0 > 0 then l.getD i 0 * r.getD i 0 else 0) := by
    refine sm_congr fun i hi => ?_
    split
    · rfl
    · next hz =>
      have := hl i hi
      rw [show l.getD i 0 = 0 by omega, Int.zero_mul]
  have hln : (isortF (singL l l.length)).length = (singL l l.length).length := (isortF_perm _).length_eq
  rw [e, by_rank l (fun i => l.getD i 0 * r.getD i 0), h.sum, ← cost_rank (by rw [hln]; exact h.bound), hln]
  refine sm_congr fun t ht => ?_
  obtain ⟨e1, e2⟩ := h.symOf ht
  rw [e1, e2]
theorem takesT_sm (e : Nat) (ss : List Nat) : ∀ N, ((takesT e ss N : Nat) : Int) = sm N (fun t => ((2 ^ (e - cs ss t) : Nat) : Int))
  | 0 => rfl
  | N + 1 => by
    rw [takesT_succ, Int.natCast_add, takesT_sm e ss N]
    rfl
/-- What the lengths take. -/
theorem Told.takes {l : List Int} {m : Nat} {r : List Int} {ss : List Nat} (h : Told l m r ss) (hm : m ≤ 15) (hn : 2 ≤ (singL l l.length).length) : sm l.length (fun i => if r.getD i 0 > 0 then ((2 ^ (15 - (r.getD i 0).toNat) : Nat) : Int) else 0) = 32768 := by
  have e : sm l.length (fun i => if r.getD i 0 > 0 then ((2 ^ (15 - (r.getD i 0).toNat) : Nat) : Int) else 0) = sm l.length (fun i => if l.getD i 0 > 0 then ((2 ^ (15 - (r.getD i 0).toNat) : Nat) : Int) else 0) := by
    refine sm_congr fun i hi => ?_
    by_cases hp : l.getD i 0 > 0
    · rw [if_pos hp, if_pos (by have := h.used hi hp; omega)]
    · rw [if_neg hp, if_neg (by have := h.zero i hi hp; omega)]
  have e2 : sm (singL l l.length).length (fun t => ((2 ^ (15 - (r.getD (Pg.symOf (isortF (singL l l.length)) t) 0).toNat) : Nat) : Int)) = ((takesT 15 ss (singL l l.length).length : Nat) : Int) := by
    rw [takesT_sm]
    refine sm_congr fun t ht => ?_
    rw [(h.symOf ht).1, Int.toNat_natCast]
  rw [e, by_rank l (fun i => ((2 ^ (15 - (r.getD i 0).toNat) : Nat) : Int)), e2]
  have hk := kraft ss 15 (singL l l.length).length _ h.falls (by rw [h.len]; exact hm) h.chain
  rw [show (2 : Nat) ^ 15 = 32768 from rfl, show (2 : Nat) ^ (15 + 1) = 65536 from rfl] at hk
  omega
end Go.Proofs.Ytdgpcjhincgijaa.Pg

-- YtdgpcjhincgijaaPg1
namespace Go.Proofs.Ytdgpcjhincgijaa.Pg
open Go.RowKit Go.Proofs.YtdgpcjhincgijaaW.PrintWords Go.Proofs.YtdgpcjhincgijaaW.PrintLast Go.Proofs.YtdgpcjhincgijaaW.PrintMore
attribute [local go_sem] max2_int min2_int max_two min_two max_three min_three max_four min_four   -- for this text's walks alone
set_option linter.unusedVariables false
set_option linter.unusedSimpArgs false

-- NOT PRINTED: function 39 (slices_IndexFunc_int_int)

-- NOT PRINTED: function 31 (slices_ContainsFunc_int_int)

-- NOT PRINTED: function 19 (limit_often)

-- NOT PRINTED: function 42 (limit_pack_int_42)

-- NOT PRINTED: function 46 (limit_pack_int_46)

-- NOT PRINTED: function 45 (limit_pack_int_45)

-- NOT PRINTED: function 43 (limit_pack_int_43)

-- NOT PRINTED: function 40 (limit_pack_int_40)

-- NOT PRINTED: function 33 (limit_pack_int_33)

-- NOT PRINTED: function 20 (limit_sorted_int)

-- NOT PRINTED: function 21 (limit_pack_int_21)

-- NOT PRINTED: function 22 (limit_pairs_int)

-- NOT PRINTED: function 36 (slices_Grow_int_int)

-- NOT PRINTED: function 23 (slices_Concat_int_int)

/-! ### limit_Lengths: function 9 (by hand) -/
def limit_Lengths.f (l0 : List Int) (a1 : Int) : Option (List Int × Int) := some ((Pr.lenF l0 a1).2, (Pr.lenF l0 a1).1)
theorem limit_Lengths.calls (A0 : Option Addr) (c0 : Nat) (l0 : List Int) (a1 : Int) (r1 : List Int) (r2 : Int) (w : World) (hr0 : Kd.C (Kd.int .i64) w A0 l0.length l0) (hc0 : l0.length ≤ c0) (h : limit_Lengths.f l0 a1 = some (r1, r2)) :
    Calls Try.prog 9 #[.slice A0 l0.length c0, .int .i64 a1] w fun e w' => ∃ v0_ : Value, e = .returned (.tuple #[v0_, .int .i64 r2]) ∧ Kd.R (Kd.int .i64) 3 w' w.heap.size (fun _ => True) v0_ r1 ∧ Below w.heap.size w w' := by
  injection h with h
  injection h with h1 h2
  refine (Pr.lengths_calls A0 c0 l0 a1 w hr0 hc0).mono ?_
  rintro e w' ⟨v, er, r, rfl, ho, hb, hl⟩
  have h3 := Pr.lenIs_isF hl
  rw [← h3] at h1 h2
  subst h1
  subst h2
  exact ⟨v, rfl, ho, hb⟩

end Go.Proofs.Ytdgpcjhincgijaa.Pg

-- YtdgpcjhincgijaaPg5
namespace Go.Proofs.Ytdgpcjhincgijaa.Pg
open Go.RowKit Go.Proofs.YtdgpcjhincgijaaW.PrintWords Go.Proofs.YtdgpcjhincgijaaW.PrintLast Go.Proofs.YtdgpcjhincgijaaW.PrintMore
attribute [local go_sem] max2_int min2_int max_two min_two max_three min_three max_four min_four   -- for this text's walks alone
set_option linter.unusedVariables false
set_option linter.unusedSimpArgs false

-- NOT PRINTED: function 39 (slices_IndexFunc_int_int)

-- NOT PRINTED: function 31 (slices_ContainsFunc_int_int)

-- NOT PRINTED: function 19 (limit_often)

-- NOT PRINTED: function 42 (limit_pack_int_42)

-- NOT PRINTED: function 46 (limit_pack_int_46)

-- NOT PRINTED: function 45 (limit_pack_int_45)

-- NOT PRINTED: function 43 (limit_pack_int_43)

-- NOT PRINTED: function 40 (limit_pack_int_40)

-- NOT PRINTED: function 33 (limit_pack_int_33)

-- NOT PRINTED: function 20 (limit_sorted_int)

-- NOT PRINTED: function 21 (limit_pack_int_21)

-- NOT PRINTED: function 22 (limit_pairs_int)

-- NOT PRINTED: function 36 (slices_Grow_int_int)

-- NOT PRINTED: function 23 (slices_Concat_int_int)

/-! ### valiseref04_Same: function 13 -/
def valiseref04_Same.l0 : Nat → List Int → List Int → Int → Option (Bool)
  | 0, _, _, _ => none
  | k + 1, x0, x1, x5 => if x5 < (x0.length : Int) then (if 0 ≤ x5 then (if x5 < (x1.length : Int) then (if (rd x0 x5) = (rd x1 x5) then (valiseref04_Same.l0 k x0 x1 (wrap64 (x5 + 1))) else (some false)) else (none)) else (none)) else (some true)
def valiseref04_Same.f (k : Nat) (l0 : List Int) (l1 : List Int) : Option (Bool) := if (l0.length : Int) = (l1.length : Int) then (valiseref04_Same.l0 k l0 l1 0) else (some false)
theorem valiseref04_Same.mono_l : ∀ k, (∀ y0 y1 y2, LeO (valiseref04_Same.l0 k y0 y1 y2) (valiseref04_Same.l0 (k + 1) y0 y1 y2))
  | 0 => fun _ _ _ r h => by simp [valiseref04_Same.l0] at h
  | k + 1 => by
    have ih0 := valiseref04_Same.mono_l k
    · intro y0 y1 y2
      unfold valiseref04_Same.l0
      repeat' first
      | (with_reducible exact ih0 _ _ _)
      | (with_reducible exact LeO.refl _)
      | (with_reducible exact LeO.none _)
      | (with_reducible refine LeO.ite ?_ ?_)
      | (with_reducible refine LeO.bind ?_ (fun _ => ?_))
      | exact ih0 _ _ _
      | exact LeO.none _
      | refine LeO.ite ?_ ?_
      | refine LeO.bind ?_ (fun _ => ?_)
theorem valiseref04_Same.mono : ∀ a0 a1 k, LeO (valiseref04_Same.f k a0 a1) (valiseref04_Same.f (k + 1) a0 a1) := by
  intro a0 a1 k
  have ih0 := valiseref04_Same.mono_l k
  unfold valiseref04_Same.f
  repeat' first
      | (with_reducible exact ih0 _ _ _)
      | (with_reducible exact LeO.refl _)
      | (with_reducible exact LeO.none _)
      | (with_reducible refine LeO.ite ?_ ?_)
      | (with_reducible refine LeO.bind ?_ (fun _ => ?_))
      | exact ih0 _ _ _
      | exact LeO.none _
      | refine LeO.ite ?_ ?_
      | refine LeO.bind ?_ (fun _ => ?_)
set_option maxHeartbeats 8000000 in
set_option maxRecDepth 100000 in
theorem valiseref04_Same.calls (k : Nat) (A0 : Option Addr) (c0 : Nat) (l0 : List Int) (A1 : Option Addr) (c1 : Nat) (l1 : List Int) (r : Bool) (w : World) (hr0 : Kd.C (Kd.int .i64) w A0 l0.length l0) (hc0 : l0.length ≤ c0) (hr1 : Kd.C (Kd.int .i64) w A1 l1.length l1) (hc1 : l1.length ≤ c1) (h : valiseref04_Same.f k l0 l1 = some r) :
    Calls Try.prog 13 #[.slice A0 l0.length c0, .slice A1 l1.length c1] w fun e w' => e = .returned (.bool r) ∧ Drawn0 w w' := by
  have HR0 := Aside0.mk hr0
  have HC0 := Aside0.mk hc0
  clear hr0 hc0
  have HR1 := Aside0.mk hr1
  have HC1 := Aside0.mk hc1
  clear hr1 hc1
  have H : (if (l0.length : Int) = (l1.length : Int) then (valiseref04_Same.l0 k l0 l1 0) else (some false)) = some r := h
  clear h
  by_cases c3 : (l0.length : Int) = (l1.length : Int)
  · rw [if_pos c3] at H
    have c3b0 : ((l0.length : Int) == (l1.length : Int)) = true := beq_iff_eq.mpr c3
    have c3b1 : ((l0.length : Int) != (l1.length : Int)) = false := bne_eq_false_iff_eq.mpr c3
    have c3b2 : (l0.length == l1.length) = true := by first | simpa using c3 | (simp at c3 ⊢; omega)
    clear c3
    have H' := Aside0.mk H
    clear H
    go_enter Try.func13, Try.ntmps13
    go_wp2
    repeat (go_quiet (fail); try go_wp2)
    go_loopg [5] k (fun kq v5 w' => ∃ (x5_1 : Int), v5 = .int .i64 x5_1 ∧ Aside0 (valiseref04_Same.l0 kq l0 l1 x5_1 = some r) ∧ Aside0 (kq ≤ k) ∧ Drawn0 w w')
    case atStart => exact ⟨(0), (by first | rfl | (simp; done) | (simp [*]; done)), H', ⟨Nat.le_refl _⟩, by repeat (first | exact Drawn0.refl _ | apply Drawn0.step)⟩
    case round =>
      clear H'
      try clear c1
      try clear p2
      try clear c3
      try clear c3b0
      try clear c3b1
      try clear c3b2
      obtain ⟨x5_1, rfl, HA, HK1, ⟨m1, rfl⟩⟩ := hrel
      cases gk with
      | zero => exact absurd HA.out (by simp [valiseref04_Same.l0])
      | succ k1 =>
        have H := HA.out
        clear HA
        simp only [valiseref04_Same.l0] at H
        by_cases c4 : x5_1 < (l0.length : Int)
        · rw [if_pos c4] at H
          have c4b0 : decide (x5_1 < (l0.length : Int)) = true := decide_eq_true c4
          clear c4
          by_cases c5 : 0 ≤ x5_1
          · rw [if_pos c5] at H
            have c5b0 : decide (0 ≤ x5_1) = true := decide_eq_true c5
            clear c5
            by_cases c6 : x5_1 < (l1.length : Int)
            · rw [if_pos c6] at H
              have c6b0 : decide (x5_1 < (l1.length : Int)) = true := decide_eq_true c6
              clear c6
              by_cases c7 : (rd l0 x5_1) = (rd l1 x5_1)
              · rw [if_pos c7] at H
                have c7b0 : ((rd l0 x5_1) == (rd l1 x5_1)) = true := beq_iff_eq.mpr c7
                have c7b1 : ((rd l0 x5_1) != (rd l1 x5_1)) = false := bne_eq_false_iff_eq.mpr c7
                clear c7
                have H' := Aside0.mk H
                clear H
                have p153 : 0 ≤ (x5_1 : Int) := of_decide_eq_true (by first | (with_reducible assumption) | assumption)
                have q153 : x5_1 < (l0.length : Int) := of_decide_eq_true (by first | (with_reducible assumption) | assumption)
                obtain ⟨ad153, e153, hx153_0⟩ := Kd.at_int HR0.out x5_1 p153 q153
                cases e153
                replace p153 := eq_true p153
                replace q153 := eq_true q153
                have p154 : 0 ≤ (x5_1 : Int) := of_decide_eq_true (by first | (with_reducible assumption) | assumption)
                have q154 : x5_1 < (l1.length : Int) := of_decide_eq_true (by first | (with_reducible assumption) | assumption)
                obtain ⟨ad154, e154, hx154_0⟩ := Kd.at_int HR1.out x5_1 p154 q154
                cases e154
                replace p154 := eq_true p154
                replace q154 := eq_true q154
                go_wp2
                repeat (go_quiet (fail); try go_wp2)
                go_roundg k1
                case measure => have := HK1.out; omega
                case rel => exact ⟨(wrap64 (x5_1 + 1)), (by first | rfl | (simp; done) | (simp [*]; done)), H', ⟨by have := HK1.out; omega⟩, by repeat (first | exact Drawn0.refl _ | apply Drawn0.step)⟩
              · rw [if_neg c7] at H
                have c7b0 : ((rd l0 x5_1) == (rd l1 x5_1)) = false := beq_eq_false_iff_ne.mpr c7
                have c7b1 : ((rd l0 x5_1) != (rd l1 x5_1)) = true := bne_iff_ne.mpr c7
                obtain rfl := Option.some.inj H
                have p153 : 0 ≤ (x5_1 : Int) := of_decide_eq_true (by first | (with_reducible assumption) | assumption)
                have q153 : x5_1 < (l0.length : Int) := of_decide_eq_true (by first | (with_reducible assumption) | assumption)
                obtain ⟨ad153, e153, hx153_0⟩ := Kd.at_int HR0.out x5_1 p153 q153
                cases e153
                replace p153 := eq_true p153
                replace q153 := eq_true q153
                have p154 : 0 ≤ (x5_1 : Int) := of_decide_eq_true (by first | (with_reducible assumption) | assumption)
                have q154 : x5_1 < (l1.length : Int) := of_decide_eq_true (by first | (with_reducible assumption) | assumption)
                obtain ⟨ad154, e154, hx154_0⟩ := Kd.at_int HR1.out x5_1 p154 q154
                cases e154
                replace p154 := eq_true p154
                replace q154 := eq_true q154
                go_wp2
                repeat (go_quiet (fail); try go_wp2)
                go_ret
                exact ⟨by first | rfl | (simp; done) | (simp [*]; done), by repeat (first | exact Drawn0.refl _ | apply Drawn0.step)⟩
            · rw [if_neg c6] at H
              exact absurd H (by simp)
          · rw [if_neg c5] at H
            exact absurd H (by simp)
        · rw [if_neg c4] at H
          have c4b0 : decide (x5_1 < (l0.length : Int)) = false := decide_eq_false c4
          clear c4
          obtain rfl := Option.some.inj H
          go_wp2
          repeat (go_quiet (fail); try go_wp2)
          go_ret
          exact ⟨by first | rfl | (simp; done) | (simp [*]; done), by repeat (first | exact Drawn0.refl _ | apply Drawn0.step)⟩
  · rw [if_neg c3] at H
    have c3b0 : ((l0.length : Int) == (l1.length : Int)) = false := beq_eq_false_iff_ne.mpr c3
    have c3b1 : ((l0.length : Int) != (l1.length : Int)) = true := bne_iff_ne.mpr c3
    have c3b2 : (l0.length == l1.length) = false := by first | simpa using c3 | (simp at c3 ⊢; omega)
    obtain rfl := Option.some.inj H
    go_enter Try.func13, Try.ntmps13
    go_wp2
    repeat (go_quiet (fail); try go_wp2)
    go_ret
    exact ⟨by first | rfl | (simp; done) | (simp [*]; done), by repeat (first | exact Drawn0.refl _ | apply Drawn0.step)⟩

-- NOT PRINTED: function 41 (huff_used)

-- NOT PRINTED: function 37 (huff_counted)

-- NOT PRINTED: function 38 (huff_counts_room)

-- NOT PRINTED: function 30 (huff_Check)

/-! ### limit_Cost: function 16 (by hand) -/
def limit_Cost.f (l0 : List Int) (l1 : List Int) : Option (Int × Int) := some (Pr.costS l0 l1)
theorem limit_Cost.calls (A0 : Option Addr) (c0 : Nat) (l0 : List Int) (A1 : Option Addr) (c1 : Nat) (l1 : List Int) (r1 : Int) (r2 : Int) (w : World) (hr0 : Kd.C (Kd.int .i64) w A0 l0.length l0) (hc0 : l0.length ≤ c0) (hr1 : Kd.C (Kd.int .i64) w A1 l1.length l1) (hc1 : l1.length ≤ c1) (h : limit_Cost.f l0 l1 = some (r1, r2)) :
    Calls Try.prog 16 #[.slice A0 l0.length c0, .slice A1 l1.length c1] w fun e w' => e = .returned (.tuple #[.int .i64 r1, .int .i64 r2]) ∧ Below w.heap.size w w' := by
  injection h with h
  have hc := Pr.cost_calls A0 A1 c0 c1 l0 l1 w hr0 hr1
  rw [h] at hc
  exact hc

end Go.Proofs.Ytdgpcjhincgijaa.Pg

