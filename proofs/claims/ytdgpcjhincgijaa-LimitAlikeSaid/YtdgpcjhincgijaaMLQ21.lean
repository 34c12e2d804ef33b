-- Texts by hand and by programs of this session, joined (wip/tool/merge.py).
import Derived.Test.YtdgpcjhincgijaaMLQ20
import Derived.Test.YtdgpcjhincgijaaMLQ16
import Derived.Test.YtdgpcjhincgijaaMLQ17
import Derived.Test.YtdgpcjhincgijaaMLQ13
import Derived.Test.YtdgpcjhincgijaaMLQ15
-- YtdgpcjhincgijaaLp5
namespace Go.Proofs.Ytdgpcjhincgijaa.Pg
open Go.RowKit Go.Proofs.YtdgpcjhincgijaaW.PrintWords Go.Proofs.YtdgpcjhincgijaaW.PrintLast Go.Proofs.YtdgpcjhincgijaaW.PrintMore
set_option linter.unusedVariables false
set_option linter.unusedSimpArgs false
open Pr (Srt Stb wP pairP isortF haveF insF sorted_isF isortF_spec srt_unique singL singL_mem bump bumps zerosL lenF oftenS)
/-! ### Plain: how many singles on each level, falling -/
def Pos (L : List PK) : Prop := ∀ p ∈ L, 0 < p.1
def Chain : List Nat → Nat → Prop
  | [], m => m = 0
  | s :: ss, m => ∃ p, s + p = m ∧ Chain ss (2 * p)
def Falls : Nat → List Nat → Prop
  | _, [] => True
  | b, s :: ss => s ≤ b ∧ Falls s ss
theorem pairP_pos {Y : List PK} (h : Pos Y) : Pos (pairP Y) := fun q hq => by
  obtain ⟨x, hx, y, hy, rfl⟩ := pairP_mem hq
  have h1 := h x hx
  have h2 := h y hy
  show 0 < x.1 + y.1
  omega
theorem have_pos {S : List PK} (hS : Pos S) : ∀ j, Pos (haveF S j)
  | 0 => fun p hp => by cases hp
  | j + 1 => fun p hp => by
    rcases List.mem_append.1 ((isortF_perm _).mem_iff.1 hp) with h | h
    · exact hS p h
    · exact pairP_pos (have_pos hS j) p h
theorem take_pair : ∀ (p : Nat) (Y : List PK), Pos Y → p ≤ Y.length / 2 → ∀ y ∈ Y.take (2 * p), ∃ q ∈ (pairP Y).take p, y.1 < q.1
  | 0, _, _, _, y, hy => by simp at hy
  | p + 1, [], _, h, _, _ => by simp at h
  | p + 1, [_], _, h, _, _ => by simp at h
  | p + 1, a :: b :: t, hp, h, y, hy => by
    have ha := hp a (by simp)
    have hb := hp b (by simp)
    rw [show 2 * (p + 1) = 2 * p + 1 + 1 by omega, List.take_succ_cons, List.take_succ_cons] at hy
    rw [pairP, List.take_succ_cons]
    rcases List.mem_cons.1 hy with rfl | hy
    · exact ⟨_, List.mem_cons_self, show y.1 < y.1 + b.1 by omega⟩
    · rcases List.mem_cons.1 hy with rfl | hy
      · exact ⟨_, List.mem_cons_self, show y.1 < a.1 + y.1 by omega⟩
      · obtain ⟨q, hq, hl⟩ := take_pair p t (fun x hx => hp x (by simp [hx])) (by simp at h; omega) y hy
        exact ⟨q, List.mem_cons_of_mem _ hq, hl⟩
/-- As `levels`, with what is known of the numbers. -/
theorem levels2 {S : List PK} (hS : Srt wP S) (hP : Pos S) : ∀ (j m b : Nat), m ≤ (haveF S j).length → (∀ x ∈ S.drop b, ∀ y ∈ (haveF S j).take m, y.1 < x.1) → ∃ ss : List Nat, ss.length = j ∧ Chain ss m ∧ Falls b ss ∧ (∀ s ∈ ss, s ≤ S.length) ∧ ∀ φ, Adds φ → sumF φ ((haveF S j).take m) = (ss.map (fun s => sumF φ (S.take s))).sum
  | 0, m, b, hm, _ => ⟨[], rfl, by simpa [haveF, Chain] using hm, trivial, by simp, fun φ _ => by simp [haveF, sumF]⟩
  | j + 1, m, b, hm, hb => by
    have hl : (mergeF S (pairP (haveF S j))).length = S.length + (pairP (haveF S j)).length := by rw [(mergeF_perm _ _).length_eq, List.length_append]
    rw [haveF_succ hS] at hm hb ⊢
    obtain ⟨s, p, e1, e2, e3, e4, _, e6⟩ := mergeF_take S (pairP (haveF S j)) m (by rw [← hl]; exact hm) hS (pairP_srt (haveF_srt S j))
    have hsb : s ≤ b := by
      refine Nat.le_of_not_lt fun hlt => ?_
      have hbl : b < S.length := by omega
      have h1 : S[b] ∈ S.drop b := by
        rw [List.drop_eq_getElem_cons hbl]
        exact List.mem_cons_self
      have h2 : S[b] ∈ S.take s := by
        have h3 : (S.take s)[b]'(by rw [List.length_take]; omega) = S[b] := List.getElem_take
        rw [← h3]
        exact List.getElem_mem _
      have := hb _ h1 _ (e4.mem_iff.2 (List.mem_append_left _ h2))
      omega
    rw [Pr.pairP_len] at e2
    obtain ⟨ss, h1, h2, h3, h5, h4⟩ := levels2 hS hP j (2 * p) s (by omega) (fun x hx y hy => by
      obtain ⟨q, hq, hl⟩ := take_pair p _ (have_pos hP j) e2 y hy
      have := e6 q hq x hx
      omega)
    refine ⟨s :: ss, by rw [List.length_cons, h1], ⟨p, e3, h2⟩, ⟨hsb, h3⟩, fun t ht => ?_, fun φ hφ => ?_⟩
    · rcases List.mem_cons.1 ht with rfl | ht
      · exact e1
      · exact h5 t ht
    · rw [sumF_perm e4, sumF_append, pair_take hφ p _ e2, h4 φ hφ, List.map_cons, List.sum_cons]
theorem chain_big : ∀ (ss : List Nat) (m c : Nat), Falls c ss → Chain ss m → 2 * c ≤ m → m = 0
  | [], m, c, _, h, _ => h
  | s :: ss, m, c, ⟨h1, h2⟩, ⟨p, h3, h4⟩, h5 => by
    have := chain_big ss (2 * p) s h2 h4 (by omega)
    omega
/-! ### Plain: how long the levels are -/
theorem have_len_succ (S : List PK) (j : Nat) : (haveF S (j + 1)).length = S.length + (haveF S j).length / 2 := by
  show (isortF (S ++ pairP (haveF S j))).length = _
  rw [(isortF_perm _).length_eq, List.length_append, Pr.pairP_len]
theorem have_len {S : List PK} {m : Nat} (h : S.length ≤ 2 ^ m) : ∀ j, j ≤ m + 1 → 2 * S.length ≤ (haveF S j).length + 2 ^ (m + 1 - j)
  | 0, _ => by
    have : 2 ^ (m + 1) = 2 * 2 ^ m := by rw [Nat.pow_succ, Nat.mul_comm]
    rw [Nat.sub_zero]
    omega
  | j + 1, hj => by
    have ih := have_len h j (by omega)
    rw [have_len_succ]
    have : 2 ^ (m + 1 - j) = 2 * 2 ^ (m + 1 - (j + 1)) := by rw [show m + 1 - j = m + 1 - (j + 1) + 1 by omega, Nat.pow_succ, Nat.mul_comm]
    omega
theorem have_enough {S : List PK} {m : Nat} (h : S.length ≤ 2 ^ m) : 2 * S.length - 2 ≤ (haveF S m).length := by
  have := have_len h m (by omega)
  rw [show m + 1 - m = 1 by omega] at this
  omega
theorem have_grows (S : List PK) : ∀ j, (haveF S j).length ≤ (haveF S (j + 1)).length
  | 0 => Nat.zero_le _
  | j + 1 => by
    have ih := have_grows S j
    rw [have_len_succ S (j + 1)]
    rw [have_len_succ] at ih ⊢
    omega
/-! ### Plain: Kraft's sum -/
def cs (ss : List Nat) (t : Nat) : Nat := (ss.map (fun s => if t < s then 1 else 0)).sum
theorem cs_le (t : Nat) : ∀ ss : List Nat, cs ss t ≤ ss.length
  | [] => Nat.le_refl _
  | s :: ss => by
    have := cs_le t ss
    unfold cs at this ⊢
    rw [List.map_cons, List.sum_cons, List.length_cons]
    split <;> omega
theorem cs_zero {t : Nat} : ∀ {ss : List Nat} {b : Nat}, Falls b ss → b ≤ t → cs ss t = 0
  | [], _, _, _ => rfl
  | s :: ss, b, ⟨h1, h2⟩, hb => by
    have := cs_zero h2 (show s ≤ t by omega)
    unfold cs at this ⊢
    rw [List.map_cons, List.sum_cons, this, if_neg (by omega)]
theorem cs_cons (s : Nat) (ss : List Nat) (t : Nat) : cs (s :: ss) t = (if t < s then 1 else 0) + cs ss t := by
  unfold cs
  rw [List.map_cons, List.sum_cons]
def takesT (e : Nat) (ss : List Nat) (N : Nat) : Nat := ((List.range N).map (fun t => 2 ^ (e - cs ss t))).sum
theorem takesT_succ (e : Nat) (ss : List Nat) (N : Nat) : takesT e ss (N + 1) = takesT e ss N + 2 ^ (e - cs ss N) := by
  unfold takesT
  rw [List.range_succ, List.map_append, List.sum_append]
  simp
theorem takesT_lo (e s : Nat) (ss : List Nat) : ∀ N, N ≤ s → takesT (e + 1) (s :: ss) N = takesT e ss N
  | 0, _ => rfl
  | N + 1, h => by
    rw [takesT_succ, takesT_succ, takesT_lo e s ss N (by omega), cs_cons, if_pos (by omega), show e + 1 - (1 + cs ss N) = e - cs ss N by omega]
theorem takesT_cons {e s : Nat} {ss : List Nat} (h : Falls s ss) : ∀ d, takesT (e + 1) (s :: ss) (s + d) = takesT e ss s + d * 2 ^ (e + 1)
  | 0 => by
    show takesT (e + 1) (s :: ss) s = _
    rw [takesT_lo e s ss s (Nat.le_refl _), Nat.zero_mul, Nat.add_zero]
  | d + 1 => by
    rw [show s + (d + 1) = s + d + 1 by omega, takesT_succ, takesT_cons h d, cs_cons, if_neg (by omega), cs_zero h (by omega), Nat.succ_mul, Nat.add_zero, Nat.sub_zero, Nat.add_assoc]
theorem kraft : ∀ (ss : List Nat) (e N m : Nat), Falls N ss → ss.length ≤ e → Chain ss m → 2 * takesT e ss N + 2 ^ e * m = 2 ^ (e + 1) * N
  | [], e, N, m, _, _, hm => by
    obtain rfl : m = 0 := hm
    have : ∀ N, takesT e [] N = N * 2 ^ e := by
      intro N
      induction N with
      | zero => rw [Nat.zero_mul]; rfl
      | succ N ih => rw [takesT_succ, ih, Nat.succ_mul]; rfl
    rw [this, Nat.mul_zero, Nat.add_zero, Nat.pow_succ, Nat.mul_comm N, Nat.mul_comm _ 2, Nat.mul_assoc]
  | s :: ss, 0, N, m, _, h, _ => by simp at h
  | s :: ss, e + 1, N, m, ⟨h1, h2⟩, hl, ⟨p, h3, h4⟩ => by
    obtain ⟨d, rfl⟩ : ∃ d, N = s + d := ⟨N - s, by omega⟩
    have ih := kraft ss e s (2 * p) h2 (by simp at hl; omega) h4
    subst h3
    rw [takesT_cons h2 d]
    have e1 : 2 ^ (e + 1) = 2 * 2 ^ e := by rw [Nat.pow_succ, Nat.mul_comm]
    have e2 : 2 ^ (e + 1 + 1) = 4 * 2 ^ e := by rw [Nat.pow_succ, e1]; omega
    rw [e1] at ih ⊢
    rw [e2]
    generalize 2 ^ e = E at *
    rw [Nat.mul_add, Nat.mul_add, Nat.mul_add, Nat.mul_assoc, Nat.mul_assoc, Nat.mul_assoc, Nat.mul_assoc, Nat.mul_left_comm d 2 E, Nat.mul_comm d E]
    rw [Nat.mul_left_comm E 2 p, Nat.mul_assoc] at ih
    generalize E * s = a at *
    generalize E * p = b at *
    generalize E * d = c at *
    omega
/-! ### Plain: the first ones are the least -/
theorem least_take : ∀ (L Q R : List PK), Srt wP L → L.Perm (Q ++ R) → sumF wP (L.take Q.length) ≤ sumF wP Q
  | [], Q, R, _, h => by
    obtain ⟨rfl, _⟩ := List.append_eq_nil_iff.1 (List.nil_perm.1 h)
    simp [sumF]
  | x :: L, Q, R, hs, h => by
    obtain ⟨c1, d1⟩ := List.pairwise_cons.1 hs
    have hx : x ∈ Q ++ R := h.mem_iff.1 List.mem_cons_self
    rcases List.mem_append.1 hx with hx | hx
    · obtain ⟨Q1, Q2, rfl⟩ := List.append_of_mem hx
      have h2 : L.Perm (Q1 ++ Q2 ++ R) := by
        refine List.Perm.cons_inv (a := x) (h.trans ?_)
        rw [List.append_assoc, List.append_assoc]
        exact List.perm_middle
      have ih := least_take L (Q1 ++ Q2) R d1 h2
      rw [List.length_append] at ih
      rw [List.length_append, List.length_cons, ← Nat.add_assoc, List.take_succ_cons]
      simp only [sumF, List.map_append, List.sum_append, List.map_cons, List.sum_cons] at ih ⊢
      omega
    · obtain ⟨R1, R2, rfl⟩ := List.append_of_mem hx
      match Q, h with
      | [], _ => simp [sumF]
      | q :: Q, h =>
        have h2 : L.Perm (Q ++ (q :: (R1 ++ R2))) := by
          refine List.Perm.cons_inv (a := x) (h.trans ?_)
          have h3 : (q :: Q ++ (R1 ++ x :: R2)).Perm (x :: (q :: Q ++ (R1 ++ R2))) := by
            rw [← List.append_assoc, ← List.append_assoc]
            exact List.perm_middle
          refine h3.trans (List.Perm.cons x ?_)
          exact (List.perm_middle (l₁ := Q)).symm
        have ih := least_take L Q (q :: (R1 ++ R2)) d1 h2
        have hq : x.1 ≤ q.1 := by
          have : q ∈ L := h2.mem_iff.2 (by simp)
          exact c1 q this
        rw [List.length_cons, List.take_succ_cons]
        simp only [sumF, List.map_cons, List.sum_cons] at ih ⊢
        unfold wP at *
        omega
theorem merge_least {a b : List PK} (ha : Srt wP a) (hb : Srt wP b) {s p : Nat} (hs : s ≤ a.length) (hp : p ≤ b.length) : sumF wP ((mergeF a b).take (s + p)) ≤ sumF wP (a.take s) + sumF wP (b.take p) := by
  have h := least_take (mergeF a b) (a.take s ++ b.take p) (a.drop s ++ b.drop p) (mergeF_srt a b ha hb) (by
    refine (mergeF_perm a b).trans ?_
    have h1 : (a ++ b) = (a.take s ++ a.drop s) ++ (b.take p ++ b.drop p) := by rw [List.take_append_drop, List.take_append_drop]
    rw [h1, List.append_assoc, List.append_assoc]
    refine List.Perm.append_left _ ?_
    rw [← List.append_assoc, ← List.append_assoc]
    exact List.Perm.append_right _ List.perm_append_comm)
  rw [List.length_append, List.length_take, List.length_take, Nat.min_eq_left hs, Nat.min_eq_left hp, sumF_append] at h
  exact h
/-- With one more level the first ones weigh no more. -/
theorem deeper {S : List PK} (hS : Srt wP S) : ∀ (j M : Nat), M ≤ (haveF S j).length → sumF wP ((haveF S (j + 1)).take M) ≤ sumF wP ((haveF S j).take M)
  | 0, M, h => by
    obtain rfl : M = 0 := by simpa [haveF] using h
    simp
  | j + 1, M, h => by
    have hl : (mergeF S (pairP (haveF S j))).length = S.length + (pairP (haveF S j)).length := by rw [(mergeF_perm _ _).length_eq, List.length_append]
    rw [haveF_succ hS j] at h
    obtain ⟨s, p, e1, e2, e3, e4, _, _⟩ := mergeF_take S (pairP (haveF S j)) M (by rw [← hl]; exact h) hS (pairP_srt (haveF_srt S j))
    rw [Pr.pairP_len] at e2
    have e5 : p ≤ (haveF S (j + 1)).length / 2 := by
      have := have_grows S j
      omega
    have ih := deeper hS j (2 * p) (by omega)
    have h1 := merge_least (b := pairP (haveF S (j + 1))) hS (pairP_srt (haveF_srt S (j + 1))) e1 (by rw [Pr.pairP_len]; exact e5)
    rw [← haveF_succ hS (j + 1), e3, pair_take wP_adds p _ e5] at h1
    rw [haveF_succ hS j, sumF_perm e4, sumF_append, pair_take wP_adds p _ e2]
    omega
/-! ### Plain: no coins that suffice weigh less -/
/-! ### Plain: sums by number -/
def sm : Nat → (Nat → Int) → Int
  | 0, _ => 0
  | n + 1, F => sm n F + F n
theorem sm_congr {F G : Nat → Int} : ∀ {n : Nat}, (∀ t, t < n → F t = G t) → sm n F = sm n G
  | 0, _ => rfl
  | n + 1, h => by
    show sm n F + F n = sm n G + G n
    rw [sm_congr (n := n) (fun t ht => h t (by omega)), h n (by omega)]
theorem sm_add (F G : Nat → Int) : ∀ n, sm n (fun t => F t + G t) = sm n F + sm n G
  | 0 => rfl
  | n + 1 => by
    have := sm_add F G n
    show sm n _ + (F n + G n) = (sm n F + F n) + (sm n G + G n)
    omega
theorem sm_zero : ∀ n, sm n (fun _ => 0) = 0
  | 0 => rfl
  | n + 1 => by
    show sm n _ + 0 = 0
    rw [sm_zero n]
    rfl
theorem sm_mul (c : Int) (F : Nat → Int) : ∀ n, sm n (fun t => c * F t) = c * sm n F
  | 0 => (Int.mul_zero c).symm
  | n + 1 => by
    show sm n _ + c * F n = c * (sm n F + F n)
    rw [sm_mul c F n, Int.mul_add]
theorem sm_shift (F : Nat → Int) : ∀ n, sm (n + 1) F = F 0 + sm n (fun t => F (t + 1))
  | 0 => by show 0 + F 0 = F 0 + 0; omega
  | n + 1 => by
    have := sm_shift F n
    show sm (n + 1) F + F (n + 1) = F 0 + (sm n (fun t => F (t + 1)) + F (n + 1))
    omega
theorem sm_list {α : Type} (G : α → Int) (d : α) : ∀ L : List α, (L.map G).sum = sm L.length (fun t => G (L.getD t d))
  | [] => rfl
  | x :: L => by
    rw [List.map_cons, List.sum_cons, List.length_cons, sm_shift, sm_list G d L]
    rfl
theorem sm_cut (F : Nat → Int) (s : Nat) : ∀ d, sm (s + d) (fun t => if t < s then F t else 0) = sm s F
  | 0 => sm_congr (fun t ht => if_pos ht)
  | d + 1 => by
    show sm (s + d) _ + (if s + d < s then F (s + d) else 0) = _
    rw [sm_cut F s d, if_neg (by omega)]
    omega
theorem sm_take {S : List PK} {s : Nat} (h : s ≤ S.length) : sumF wP (S.take s) = sm s (fun t => (S.getD t (0, [])).1) := by
  unfold sumF
  rw [sm_list wP (0, []), List.length_take, Nat.min_eq_left h]
  refine sm_congr fun t ht => ?_
  unfold wP
  rw [List.getD_eq_getElem?_getD, List.getD_eq_getElem?_getD, List.getElem?_take, if_pos ht]
theorem cost_rank {S : List PK} : ∀ {ss : List Nat}, (∀ s ∈ ss, s ≤ S.length) → sm S.length (fun t => (S.getD t (0, [])).1 * (cs ss t : Int)) = (ss.map (fun s => sumF wP (S.take s))).sum
  | [], _ => by
    rw [List.map_nil, List.sum_nil]
    exact (sm_congr (fun t _ => Int.mul_zero _)).trans (sm_zero _)
  | s :: ss, h => by
    have ih := cost_rank (ss := ss) (fun x hx => h x (List.mem_cons_of_mem _ hx))
    have h1 := h s List.mem_cons_self
    obtain ⟨d, hd⟩ : ∃ d, S.length = s + d := ⟨S.length - s, by omega⟩
    have e : sm S.length (fun t => (S.getD t (0, [])).1 * (cs (s :: ss) t : Int)) = sm S.length (fun t => (if t < s then (S.getD t (0, [])).1 else 0) + (S.getD t (0, [])).1 * (cs ss t : Int)) := by
      refine sm_congr fun t _ => ?_
      rw [cs_cons]
      split
      · rw [Int.natCast_add, Int.mul_add]
        show _ * 1 + _ = _
        rw [Int.mul_one]
      · rw [Nat.zero_add, Int.zero_add]
    rw [e, sm_add, ih, List.map_cons, List.sum_cons, sm_take h1, hd, sm_cut]
/-! ### Plain: the symbols by their ranks -/
def symOf (S : List PK) (t : Nat) : Nat := ((S.getD t (0, [])).2.headD 0).toNat
theorem sing_sum (l : List Int) (H : Nat → Int) : ∀ k, ((singL l k).map (fun p => H (p.2.headD 0).toNat)).sum = sm k (fun i => if l.getD i 0 > 0 then H i else 0)
  | 0 => rfl
  | k + 1 => by
    have ih := sing_sum l H k
    rw [Pr.singL_succ]
    show _ = sm k _ + (if l.getD k 0 > 0 then H k else 0)
    by_cases h : l.getD k 0 > 0
    · rw [if_pos h, if_pos h, List.map_append, List.sum_append, ih]
      simp
    · rw [if_neg h, if_neg h, ih, Int.add_zero]
theorem perm_sum {a b : List Int} (h : a.Perm b) : a.sum = b.sum := by
  induction h with
  | nil => rfl
  | cons x _ ih => rw [List.sum_cons, List.sum_cons, ih]
  | swap x y l => simp only [List.sum_cons]; omega
  | trans _ _ i1 i2 => exact i1.trans i2
theorem by_rank (l : List Int) (H : Nat → Int) : sm l.length (fun i => if l.getD i 0 > 0 then H i else 0) = sm (singL l l.length).length (fun t => H (symOf (isortF (singL l l.length)) t)) := by
  rw [← sing_sum, ← perm_sum ((isortF_perm (singL l l.length)).map _), sm_list _ ((0 : Int), ([] : List Int)), (isortF_perm (singL l l.length)).length_eq]
  rfl
theorem rank_of {l : List Int} {t : Nat} (ht : t < (singL l l.length).length) : ∃ i : Nat, i < l.length ∧ (isortF (singL l l.length)).getD t (0, []) = (l.getD i 0, [(i : Int)]) ∧ l.getD i 0 > 0 := by
  rw [← (isortF_perm (singL l l.length)).length_eq] at ht
  rw [List.getD_eq_getElem?_getD, List.getElem?_eq_getElem ht]
  exact sing_of (List.getElem_mem ht)
theorem rank_at {l : List Int} {i : Nat} (hi : i < l.length) (h : l.getD i 0 > 0) : ∃ t, t < (singL l l.length).length ∧ (isortF (singL l l.length)).getD t (0, []) = (l.getD i 0, [(i : Int)]) := by
  obtain ⟨t, ht, e⟩ := List.getElem_of_mem (sing_at hi h)
  refine ⟨t, by rwa [(isortF_perm _).length_eq] at ht, ?_⟩
  rw [List.getD_eq_getElem?_getD, List.getElem?_eq_getElem ht, e]
  rfl
theorem cnt_one {l : List Int} {t i : Nat} {v : Int} (ht : t < (singL l l.length).length) (e : (isortF (singL l l.length)).getD t (0, []) = (v, [(i : Int)])) (s : Nat) : sumF (cnt (i : Int)) ((isortF (singL l l.length)).take s) = (((if t < s then 1 else 0 : Nat)) : Int) := by
  have hle := take_cnt_le l l.length s (i : Int)
  have hnd := srt_sing_nodup l l.length
  rw [← (isortF_perm (singL l l.length)).length_eq] at ht
  generalize isortF (singL l l.length) = S at *
  rw [List.getD_eq_getElem?_getD, List.getElem?_eq_getElem ht] at e
  have e : S[t] = (v, [(i : Int)]) := e
  by_cases h : t < s
  · rw [if_pos h]
    have hm : S[t] ∈ S.take s := by
      have h3 : (S.take s)[t]'(by rw [List.length_take]; omega) = S[t] := List.getElem_take
      rw [← h3]
      exact List.getElem_mem _
    rw [e] at hm
    have hc : (i : Int) ∈ (S.take s).flatMap Prod.snd := List.mem_flatMap.2 ⟨_, hm, by simp⟩
    have := List.count_pos_iff.2 hc
    rw [sumF_cnt] at hle ⊢
    omega
  · rw [if_neg h]
    have hm : S[t] ∈ S.drop s := by
      have h3 : (S.drop s)[t - s]'(by rw [List.length_drop]; omega) = S[t] := by
        rw [List.getElem_drop]
        congr 1
        omega
      rw [← h3]
      exact List.getElem_mem _
    rw [e] at hm
    have hc : (i : Int) ∈ (S.drop s).flatMap Prod.snd := List.mem_flatMap.2 ⟨_, hm, by simp⟩
    rw [← List.take_append_drop s S, List.flatMap_append] at hnd
    have hd := (List.nodup_append.1 hnd).2.2
    have hz : ¬ (i : Int) ∈ (S.take s).flatMap Prod.snd := fun hx => hd _ hx _ hc rfl
    rw [sumF_cnt, List.count_eq_zero.2 hz]
theorem cnt_rank {l : List Int} {t i : Nat} {v : Int} (ht : t < (singL l l.length).length) (e : (isortF (singL l l.length)).getD t (0, []) = (v, [(i : Int)])) : ∀ ss : List Nat, (ss.map (fun s => sumF (cnt (i : Int)) ((isortF (singL l l.length)).take s))).sum = (cs ss t : Int)
  | [] => rfl
  | s :: ss => by
    have ih := cnt_rank ht e ss
    rw [List.map_cons, List.sum_cons, ih, cnt_one ht e, cs_cons]
    omega
theorem cnt_none {l : List Int} {i : Nat} (h : ¬ l.getD i 0 > 0) (s : Nat) : sumF (cnt (i : Int)) ((isortF (singL l l.length)).take s) = 0 := by
  rw [sumF_cnt]
  have : ¬ (i : Int) ∈ ((isortF (singL l l.length)).take s).flatMap Prod.snd := fun hx => by
    obtain ⟨p, hp, hs⟩ := List.mem_flatMap.1 hx
    obtain ⟨j, hj, rfl, h2⟩ := sing_of (List.mem_of_mem_take hp)
    have : j = i := by have := List.mem_singleton.1 hs; omega
    subst this
    exact h h2
  rw [List.count_eq_zero.2 this]
  rfl
theorem cnt_nones {l : List Int} {i : Nat} (h : ¬ l.getD i 0 > 0) : ∀ ss : List Nat, (ss.map (fun s => sumF (cnt (i : Int)) ((isortF (singL l l.length)).take s))).sum = 0
  | [] => rfl
  | s :: ss => by rw [List.map_cons, List.sum_cons, cnt_nones h ss, cnt_none h]; rfl
theorem sing_pos (l : List Int) : Pos (isortF (singL l l.length)) := fun p hp => by
  obtain ⟨j, _, rfl, h⟩ := sing_of hp
  exact h
/-- The lengths of two symbols and more: by the numbers of singles on the levels. -/
structure Told (l : List Int) (m : Nat) (r : List Int) (ss : List Nat) : Prop where
  len : ss.length = m
  rlen : r.length = l.length
  chain : Chain ss (2 * (singL l l.length).length - 2)
  falls : Falls (singL l l.length).length ss
  bound : ∀ s ∈ ss, s ≤ (singL l l.length).length
  head : ∃ rest, ss = (singL l l.length).length :: rest
  zero : ∀ i, i < l.length → ¬ l.getD i 0 > 0 → r.getD i 0 = 0
  rank : ∀ t i : Nat, t < (singL l l.length).length → (isortF (singL l l.length)).getD t (0, []) = (l.getD i 0, [(i : Int)]) → i < l.length → r.getD i 0 = (cs ss t : Int)
  sum : sumF wP ((haveF (isortF (singL l l.length)) m).take (2 * (singL l l.length).length - 2)) = (ss.map (fun s => sumF wP ((isortF (singL l l.length)).take s))).sum
theorem lenF_many {l : List Int} {most : Int} {r : List Int} (h : lenF l most = (0, r)) (hn : 2 ≤ (singL l l.length).length) : ∃ m : Nat, most = (m : Int) ∧ 1 ≤ m ∧ m ≤ 15 ∧ (singL l l.length).length ≤ 2 ^ m ∧ r = ((haveF (isortF (singL l l.length)) m).take (2 * (singL l l.length).length - 2)).foldl (fun out p => bumps out p.2) (zerosL l) := by
  obtain ⟨_, m, e, h1, h2, hle, h3 | ⟨p, hp, _⟩ | ⟨_, hr⟩⟩ := lenF_ok h
  · rw [h3.1] at hn
    simp at hn
  · rw [hp] at hn
    simp at hn
  · exact ⟨m, e, h1, h2, hle, hr⟩
theorem told_getD {l : List Int} {m M : Nat} {i : Nat} (hi : i < l.length) : (((haveF (isortF (singL l l.length)) m).take M).foldl (fun out p => bumps out p.2) (zerosL l)).getD i 0 = sumF (cnt (i : Int)) ((haveF (isortF (singL l l.length)) m).take M) := by
  rw [out_getD (fun p hp => have_syms l m p (List.mem_of_mem_take hp)) (by rw [zeros_len]; exact hi), zeros_get, Int.zero_add]
theorem lenF_told {l : List Int} {most : Int} {r : List Int} (h : lenF l most = (0, r)) (hn : 2 ≤ (singL l l.length).length) : ∃ (m : Nat) (ss : List Nat), most = (m : Int) ∧ 1 ≤ m ∧ m ≤ 15 ∧ (singL l l.length).length ≤ 2 ^ m ∧ Told l m r ss := by
  obtain ⟨m, e, h1, h2, hle, hr⟩ := lenF_many h hn
  have hS := (isortF_spec (singL l l.length)).1
  have hln : (isortF (singL l l.length)).length = (singL l l.length).length := (isortF_perm _).length_eq
  have he : 2 * (singL l l.length).length - 2 ≤ (haveF (isortF (singL l l.length)) m).length := by
    have := have_enough (S := isortF (singL l l.length)) (m := m) (by rw [hln]; exact hle)
    rwa [hln] at this
  obtain ⟨ss, c1, c2, c3, c4, c5⟩ := levels2 hS (sing_pos l) m _ (singL l l.length).length he (by rw [← hln, List.drop_length]; intro x hx; cases hx)
  refine ⟨m, ss, e, h1, h2, hle, c1, lenF_len h, c2, c3, fun s hs => by rw [← hln]; exact c4 s hs, ?_, ?_, ?_, c5 wP wP_adds⟩
  · match ss, c1, c2, c3 with
    | [], c1, _, _ => simp at c1; omega
    | s :: rest, _, c2, c3 =>
      by_cases hs : s = (singL l l.length).length
      · exact ⟨rest, by rw [hs]⟩
      · exfalso
        have := chain_big (s :: rest) _ ((singL l l.length).length - 1) ⟨by have := c3.1; omega, c3.2⟩ c2 (by omega)
        omega
  · intro i hi hz
    rw [hr, told_getD hi, c5 _ (cnt_adds _), cnt_nones hz]
  · intro t i ht hti hi
    rw [hr, told_getD hi, c5 _ (cnt_adds _), cnt_rank ht hti]
theorem Told.pos {l : List Int} {m : Nat} {r : List Int} {ss : List Nat} (h : Told l m r ss) {t : Nat} (ht : t < (singL l l.length).length) : 1 ≤ cs ss t ∧ cs ss t ≤ m := by
  obtain ⟨rest, e⟩ := h.head
  have := cs_le t ss
  refine ⟨?_, by rw [h.len] at this; exact this⟩
  rw [e, cs_cons, if_pos ht]
  omega
theorem Told.used {l : List Int} {m : Nat} {r : List Int} {ss : List Nat} (h : Told l m r ss) {i : Nat} (hi : i < l.length) (hp : l.getD i 0 > 0) : 1 ≤ r.getD i 0 ∧ r.getD i 0 ≤ m := by
  obtain ⟨t, ht, e⟩ := rank_at hi hp
  have h1 := h.rank t i ht e hi
  have h2 := h.pos ht
  omega
theorem Told.all {l : List Int} {m : Nat} {r : List Int} {ss : List Nat} (h : Told l m r ss) {i : Nat} (hi : i < l.length) : 0 ≤ r.getD i 0 ∧ r.getD i 0 ≤ m := by
  by_cases hp : l.getD i 0 > 0
  · have := h.used hi hp
    omega
  · have := h.zero i hi hp
    omega
theorem Told.symOf {l : List Int} {m : Nat} {r : List Int} {ss : List Nat} (h : Told l m r ss) {t : Nat} (ht : t < (singL l l.length).length) : r.getD (symOf (isortF (singL l l.length)) t) 0 = (cs ss t : Int) ∧ l.getD (Pg.symOf (isortF (singL l l.length)) t) 0 = ((isortF (singL l l.length)).getD t (0, [])).1 := by
  obtain ⟨i, hi, e, _⟩ := rank_of ht
  have e2 : Pg.symOf (isortF (singL l l.length)) t = i := by
    unfold Pg.symOf
    rw [e]
    rfl
  rw [e2, e]
  exact ⟨h.rank t i ht e hi, rfl⟩
/-- What the lengths cost. -/
theorem Told.cost {l : List Int} {m : Nat} {r : List Int} {ss : List Nat} (h : Told l m r ss) (hl : ∀ i, i < l.length → 0 ≤ l.getD i 0) : sm l.length (fun i => l.getD i 0 * r.getD i 0) = sumF wP ((haveF (isortF (singL l l.length)) m).take (2 * (singL l l.length).length - 2)) := by
  have e : sm l.length (fun i => l.getD i 0 * r.getD i 0) = sm l.length (fun i => if l.getD i 0 > 0 then l.getD i 0 * r.getD i 0 else 0) := by
    refine sm_congr fun i hi => ?_
    split
    · rfl
    · next hz =>
      have := hl i hi
      rw [show l.getD i 0 = 0 by omega, Int.zero_mul]
  have hln : (isortF (singL l l.length)).length = (singL l l.length).length := (isortF_perm _).length_eq
  rw [e, by_rank l (fun i => l.getD i 0 * r.getD i 0), h.sum, ← cost_rank (by rw [hln]; exact h.bound), hln]
  refine sm_congr fun t ht => ?_
  obtain ⟨e1, e2⟩ := h.symOf ht
  rw [e1, e2]
theorem takesT_sm (e : Nat) (ss : List Nat) : ∀ N, ((takesT e ss N : Nat) : Int) = sm N (fun t => ((2 ^ (e - cs ss t) : Nat) : Int))
  | 0 => rfl
  | N + 1 => by
    rw [takesT_succ, Int.natCast_add, takesT_sm e ss N]
    rfl
/-- What the lengths take. -/
theorem Told.takes {l : List Int} {m : Nat} {r : List Int} {ss : List Nat} (h : Told l m r ss) (hm : m ≤ 15) (hn : 2 ≤ (singL l l.length).length) : sm l.length (fun i => if r.getD i 0 > 0 then ((2 ^ (15 - (r.getD i 0).toNat) : Nat) : Int) else 0) = 32768 := by
  have e : sm l.length (fun i => if r.getD i 0 > 0 then ((2 ^ (15 - (r.getD i 0).toNat) : Nat) : Int) else 0) = sm l.length (fun i => if l.getD i 0 > 0 then ((2 ^ (15 - (r.getD i 0).toNat) : Nat) : Int) else 0) := by
    refine sm_congr fun i hi => ?_
    by_cases hp : l.getD i 0 > 0
    · rw [if_pos hp, if_pos (by have := h.used hi hp; omega)]
    · rw [if_neg hp, if_neg (by have := h.zero i hi hp; omega)]
  have e2 : sm (singL l l.length).length (fun t => ((2 ^ (15 - (r.getD (Pg.symOf (isortF (singL l l.length)) t) 0).toNat) : Nat) : Int)) = ((takesT 15 ss (singL l l.length).length : Nat) : Int) := by
    rw [takesT_sm]
    refine sm_congr fun t ht => ?_
    rw [(h.symOf ht).1, Int.toNat_natCast]
  rw [e, by_rank l (fun i => ((2 ^ (15 - (r.getD i 0).toNat) : Nat) : Int)), e2]
  have hk := kraft ss 15 (singL l l.length).length _ h.falls (by rw [h.len]; exact hm) h.chain
  rw [show (2 : Nat) ^ 15 = 32768 from rfl, show (2 : Nat) ^ (15 + 1) = 65536 from rfl] at hk
  omega
end Go.Proofs.Ytdgpcjhincgijaa.Pg

-- YtdgpcjhincgijaaLp1
namespace Go.Proofs.Ytdgpcjhincgijaa.Pg
open Go.RowKit Go.Proofs.YtdgpcjhincgijaaW.PrintWords Go.Proofs.YtdgpcjhincgijaaW.PrintLast Go.Proofs.YtdgpcjhincgijaaW.PrintMore
set_option linter.unusedVariables false
set_option linter.unusedSimpArgs false
/-! ### Plain: the document's Often, Lengths, Cost; the examples -/
theorem up {α : Type} {g : Nat → Option α} (hm : ∀ k, LeO (g k) (g (k + 1))) {k n : Nat} {r : α} (hk : k ≤ n) (h : g k = some r) : g n = some r := by
  induction n with
  | zero => obtain rfl : k = 0 := by omega
            exact h
  | succ n ih =>
    by_cases e : k = n + 1
    · subst e
      exact h
    · exact hm n r (ih (by omega))
theorem lives_20 : valiselaw05_lives.f 20 = some true := by decide +kernel
theorem lives_at {k : Nat} (hk : 20 ≤ k) : valiselaw05_lives.f k = some true := up (g := valiselaw05_lives.f) valiselaw05_lives.mono hk lives_20
theorem drop_rd (x : List Int) {i : Nat} (h : i < x.length) : x.drop i = rd x (i : Int) :: x.drop (i + 1) := by
  rw [List.drop_eq_getElem_cons h]
  unfold rd
  rw [Int.toNat_natCast, List.getD_eq_getElem?_getD, List.getElem?_eq_getElem h]
  rfl
theorem w_next {i : Nat} (h : i < 1000000) : wrap64 ((i : Int) + 1) = ((i + 1 : Nat) : Int) := by
  rw [Pr.wrap64_id (by omega) (by omega)]
  omega
end Go.Proofs.Ytdgpcjhincgijaa.Pg

-- YtdgpcjhincgijaaLp4
namespace Go.Proofs.Ytdgpcjhincgijaa.Pg
open Go.RowKit Go.Proofs.YtdgpcjhincgijaaW.PrintWords Go.Proofs.YtdgpcjhincgijaaW.PrintLast Go.Proofs.YtdgpcjhincgijaaW.PrintMore
set_option linter.unusedVariables false
set_option linter.unusedSimpArgs false
theorem often_l0 (x : List Int) (hx : x.length ≤ 288) : ∀ (n i k : Nat), i + n = x.length → n < k → valiseref05_Often.l0 k x (i : Int) = some (!((x.drop i).any Pr.badF))
  | n, i, 0, _, hk => by omega
  | 0, i, k + 1, hi, _ => by
    rw [valiseref05_Often.l0, if_neg (by omega), List.drop_eq_nil_of_le (by omega)]
    rfl
  | n + 1, i, k + 1, hi, hk => by
    rw [valiseref05_Often.l0, if_pos (by omega), if_pos (by omega), drop_rd x (by omega), List.any_cons, w_next (by omega)]
    by_cases h1 : rd x (i : Int) < 0
    · rw [if_pos h1]
      unfold Pr.badF
      rw [decide_eq_true h1]
      rfl
    · rw [if_neg h1]
      by_cases h2 : rd x (i : Int) > 4294967295
      · rw [if_pos h2]
        unfold Pr.badF
        rw [decide_eq_true h2, Bool.or_true]
        rfl
      · rw [if_neg h2, often_l0 x hx n (i + 1) k (by omega) (by omega)]
        have : Pr.badF (rd x (i : Int)) = false := by
          unfold Pr.badF
          rw [decide_eq_false h1, decide_eq_false h2]
          rfl
        rw [this, Bool.false_or]
theorem often_eq (x : List Int) {k : Nat} (hk : 400 ≤ k) : valiseref05_Often.f k x = some (Pr.oftenS x) := by
  obtain ⟨k, rfl⟩ : ∃ k', k = k' + 1 := ⟨k - 1, by omega⟩
  unfold valiseref05_Often.f Pr.oftenS
  by_cases h0 : x.length = 0
  · rw [if_pos (by omega), valiseref05_Often.j0, if_pos rfl, decide_eq_false (by omega), Bool.false_and]
  · rw [if_neg (by omega), valiseref05_Often.j0]
    by_cases h1 : x.length > 288
    · rw [if_pos (decide_eq_true (by omega)), decide_eq_false (by omega), Bool.false_and]
    · rw [if_neg (by rw [decide_eq_false (by omega)]; decide), decide_eq_true (by omega), Bool.true_and]
      exact often_l0 x (by omega) x.length 0 k (by omega) (by omega)
def badC (n : Int) : Bool := decide (n < 0) || decide (n > 15)
def lensS (l : List Int) : Bool := decide (1 ≤ l.length ∧ l.length ≤ 288) && !l.any badC
theorem lens_l0 (x : List Int) (hx : x.length ≤ 288) : ∀ (n i k : Nat), i + n = x.length → n < k → valiseref04_Lengths.l0 k x (i : Int) = some (!((x.drop i).any badC))
  | n, i, 0, _, hk => by omega
  | 0, i, k + 1, hi, _ => by
    rw [valiseref04_Lengths.l0, if_neg (by omega), List.drop_eq_nil_of_le (by omega)]
    rfl
  | n + 1, i, k + 1, hi, hk => by
    rw [valiseref04_Lengths.l0, if_pos (by omega), if_pos (by omega), drop_rd x (by omega), List.any_cons, w_next (by omega)]
    by_cases h1 : rd x (i : Int) < 0
    · rw [if_pos h1]
      unfold badC
      rw [decide_eq_true h1]
      rfl
    · rw [if_neg h1]
      by_cases h2 : rd x (i : Int) > 15
      · rw [if_pos h2]
        unfold badC
        rw [decide_eq_true h2, Bool.or_true]
        rfl
      · rw [if_neg h2, lens_l0 x hx n (i + 1) k (by omega) (by omega)]
        have : badC (rd x (i : Int)) = false := by
          unfold badC
          rw [decide_eq_false h1, decide_eq_false h2]
          rfl
        rw [this, Bool.false_or]
theorem lens_eq (x : List Int) {k : Nat} (hk : 400 ≤ k) : valiseref04_Lengths.f k x = some (lensS x) := by
  obtain ⟨k, rfl⟩ : ∃ k', k = k' + 1 := ⟨k - 1, by omega⟩
  unfold valiseref04_Lengths.f lensS
  by_cases h0 : x.length = 0
  · rw [if_pos (by omega), valiseref04_Lengths.j0, if_pos rfl, decide_eq_false (by omega), Bool.false_and]
  · rw [if_neg (by omega), valiseref04_Lengths.j0]
    by_cases h1 : x.length > 288
    · rw [if_pos (decide_eq_true (by omega)), decide_eq_false (by omega), Bool.false_and]
    · rw [if_neg (by rw [decide_eq_false (by omega)]; decide), decide_eq_true (by omega), Bool.true_and]
      exact lens_l0 x (by omega) x.length 0 k (by omega) (by omega)
theorem lensS_iff (l : List Int) : lensS l = true ↔ 1 ≤ l.length ∧ l.length ≤ 288 ∧ ∀ x ∈ l, 0 ≤ x ∧ x ≤ 15 := by
  unfold lensS badC
  rw [Bool.and_eq_true, decide_eq_true_iff, Bool.not_eq_true', List.any_eq_false, and_assoc]
  refine and_congr_right fun _ => and_congr_right fun _ => forall_congr' fun x => forall_congr' fun _ => ?_
  simp
theorem lensS_check (l : List Int) : lensS l = true ↔ Pr.checkS l ≠ 2 := by
  rw [lensS_iff]
  constructor
  · rintro ⟨h1, h2, h3⟩
    have : (Pr.countedS l).2 = true := by
      unfold Pr.countedS
      rw [if_neg (by omega), if_pos]
      rw [List.all_eq_true]
      intro x hx
      unfold Pr.usedL at hx
      obtain ⟨hx, _⟩ := List.mem_filter.1 hx
      obtain ⟨j, hj, rfl⟩ := List.mem_map.1 hx
      have hj := List.mem_range.1 hj
      refine decide_eq_true ?_
      show 0 ≤ l[j]?.getD 0 ∧ l[j]?.getD 0 ≤ 15
      rw [List.getElem?_eq_getElem hj]
      exact h3 _ (List.getElem_mem hj)
    unfold Pr.checkS
    rw [if_neg (by rw [this]; decide)]
    split
    · decide
    · split <;> decide
  · intro h
    obtain ⟨h1, h2, h3⟩ := Pr.checkS_lens h
    refine ⟨h1, h2, fun x hx => ?_⟩
    obtain ⟨j, hj, rfl⟩ := List.getElem_of_mem hx
    have := h3 j hj
    rwa [List.getD_eq_getElem?_getD, List.getElem?_eq_getElem hj] at this
theorem cost_l0 (f l : List Int) (hn : f.length ≤ 288) (hl : f.length = l.length) (hb : ∀ k, k ≤ f.length → 0 ≤ Pr.dotS f l k ∧ Pr.dotS f l k ≤ (k : Int) * 64424509425) (hp : ∀ k : Nat, k < f.length → 0 ≤ f.getD k 0 * l.getD k 0) : ∀ (n i k : Nat), i + n = f.length → n < k → valiseref05_Cost.l0 k f l (Pr.dotS f l i) (i : Int) = some (Pr.dotS f l f.length, 0)
  | n, i, 0, _, hk => by omega
  | 0, i, k + 1, hi, _ => by
    obtain rfl : i = f.length := by omega
    rw [valiseref05_Cost.l0, if_neg (by omega)]
  | n + 1, i, k + 1, hi, hk => by
    rw [valiseref05_Cost.l0, if_pos (by omega), if_pos (by omega), if_pos (by omega), w_next (by omega)]
    have e1 : rd f (i : Int) = f.getD i 0 := by unfold rd; rw [Int.toNat_natCast]
    have e2 : rd l (i : Int) = l.getD i 0 := by unfold rd; rw [Int.toNat_natCast]
    have h1 := hb i (by omega)
    have h2 := hb (i + 1) (by omega)
    have h3 : Pr.dotS f l (i + 1) = Pr.dotS f l i + f.getD i 0 * l.getD i 0 := rfl
    have h4 := hp i (by omega)
    have ih := cost_l0 f l hn hl hb hp n (i + 1) k (by omega) (by omega)
    rw [e1, e2]
    rw [h3] at h2 ih
    generalize f.getD i 0 * l.getD i 0 = z at *
    rw [Pr.wrap64_id (n := z) (by omega) (by omega), Pr.wrap64_id (by omega) (by omega)]
    exact ih
theorem cost_eq (f l : List Int) {k : Nat} (hk : 400 ≤ k) : valiseref05_Cost.f k f l = some (Pr.costS f l) := by
  obtain ⟨k', rfl⟩ : ∃ k', k = k' + 1 := ⟨k - 1, by omega⟩
  unfold valiseref05_Cost.f Pr.costS
  rw [often_eq f hk, lens_eq l hk]
  simp only [Option.bind_some]
  by_cases h1 : Pr.oftenS f = true
  · rw [if_pos h1]
    by_cases h2 : lensS l = true
    · rw [if_pos h2, valiseref05_Cost.j0]
      by_cases h3 : f.length = l.length
      · rw [if_neg (by rw [bne_iff_ne]; omega), if_pos ⟨h1, h3, (lensS_check l).1 h2⟩]
        have hf := Pr.often_at h1
        obtain ⟨h4, h5, _⟩ := (lensS_iff l).1 h2
        have h6 := (Pr.checkS_lens ((lensS_check l).1 h2)).2.2
        rw [← h3] at h6
        exact cost_l0 f l (by omega) h3 (Pr.dotS_bound hf h6) (fun k hk => Int.mul_nonneg (hf k hk).1 (h6 k hk).1) f.length 0 k' (by omega) (by omega)
      · rw [if_pos (by rw [bne_iff_ne]; omega), if_neg (fun h => h3 h.2.1)]
    · rw [if_neg h2, valiseref05_Cost.j0, if_pos rfl, if_neg (fun h => h2 ((lensS_check l).2 h.2.2))]
  · rw [if_neg h1, valiseref05_Cost.j0, if_pos rfl, if_neg (fun h => h1 h.1)]
end Go.Proofs.Ytdgpcjhincgijaa.Pg

-- YtdgpcjhincgijaaPg17
namespace Go.Proofs.Ytdgpcjhincgijaa.Pg
open Go.RowKit Go.Proofs.YtdgpcjhincgijaaW.PrintWords Go.Proofs.YtdgpcjhincgijaaW.PrintLast Go.Proofs.YtdgpcjhincgijaaW.PrintMore
attribute [local go_sem] max2_int min2_int max_two min_two max_three min_three max_four min_four   -- for this text's walks alone
set_option linter.unusedVariables false
set_option linter.unusedSimpArgs false

-- NOT PRINTED: function 39 (slices_IndexFunc_int_int)

-- NOT PRINTED: function 31 (slices_ContainsFunc_int_int)

-- NOT PRINTED: function 19 (limit_often)

-- NOT PRINTED: function 42 (limit_pack_int_42)

-- NOT PRINTED: function 46 (limit_pack_int_46)

-- NOT PRINTED: function 45 (limit_pack_int_45)

-- NOT PRINTED: function 43 (limit_pack_int_43)

-- NOT PRINTED: function 40 (limit_pack_int_40)

-- NOT PRINTED: function 33 (limit_pack_int_33)

-- NOT PRINTED: function 20 (limit_sorted_int)

-- NOT PRINTED: function 21 (limit_pack_int_21)

-- NOT PRINTED: function 22 (limit_pairs_int)

-- NOT PRINTED: function 36 (slices_Grow_int_int)

-- NOT PRINTED: function 23 (slices_Concat_int_int)

/-! ### valiselaw05_cost: function 17 -/
def valiselaw05_cost.f (l0 : List Int) (a1 : Int) : Option (Int × Bool) := (limit_Lengths.f l0 a1).bind fun bt306 => (if bt306.2 = 0 then ((limit_Cost.f l0 bt306.1).bind fun bt310 => (some (bt310.1, (bt310.2 == 0)))) else (some (0, false)))
set_option maxHeartbeats 8000000 in
set_option maxRecDepth 100000 in
theorem valiselaw05_cost.calls (A0 : Option Addr) (c0 : Nat) (l0 : List Int) (a1 : Int) (r1 : Int) (r2 : Bool) (w : World) (hr0 : Kd.C (Kd.int .i64) w A0 l0.length l0) (hc0 : l0.length ≤ c0) (h : valiselaw05_cost.f l0 a1 = some (r1, r2)) :
    Calls Try.prog 17 #[.slice A0 l0.length c0, .int .i64 a1] w fun e w' => e = .returned (.tuple #[.int .i64 r1, .bool r2]) ∧ Below w.heap.size w w' := by
  have HR0 := Aside0.mk hr0
  have HC0 := Aside0.mk hc0
  clear hr0 hc0
  have HB := Aside0.mk (Below.refl w.heap.size w)
  have H : ((limit_Lengths.f l0 a1).bind fun bt306 => (if bt306.2 = 0 then ((limit_Cost.f l0 bt306.1).bind fun bt310 => (some (bt310.1, (bt310.2 == 0)))) else (some (0, false)))) = some (r1, r2) := h
  clear h
  replace H := Option.bind_eq_some_iff.mp H
  obtain ⟨⟨t306, t307⟩, A30, H⟩ := H
  replace H : (if t307 = 0 then ((limit_Cost.f l0 t306).bind fun bt310 => (some (bt310.1, (bt310.2 == 0)))) else (some (0, false))) = some (r1, r2) := H
  have A3 := Aside0.mk A30
  clear A30
  by_cases c4 : t307 = 0
  · rw [if_pos c4] at H
    have c4b0 : (t307 == 0) = true := beq_iff_eq.mpr c4
    have c4b1 : (t307 != 0) = false := bne_eq_false_iff_eq.mpr c4
    clear c4
    replace H := Option.bind_eq_some_iff.mp H
    obtain ⟨⟨t310, t311⟩, A50, H⟩ := H
    replace H : (some (t310, (t311 == 0))) = some (r1, r2) := H
    have A5 := Aside0.mk A50
    clear A50
    simp only [Option.some.injEq, Prod.mk.injEq] at H
    obtain ⟨rfl, rfl⟩ := H
    go_enter Try.func17, Try.ntmps17
    go_wp2_with (first | ((with_reducible refine gate_callee (f := 9) rfl ?_); refine goesL_ (some 13) rfl rfl Try.func9 (by kernel_rfl) rfl #[.slice A0 l0.length c0, .int .i64 a1] rfl (by (try simp only [List.map_toArray, List.map_cons, List.map_nil]); first | done | rfl | (simp only [List.length_drop, List.length_take]; rfl)) ?_; (with_reducible refine (limit_Lengths.calls _ _ l0 a1 t306 t307 _ ?side1 ?side2 A3.out).mono ?_); (case side1 => repeat (first | exact HR0.out | (with_reducible refine Kd.C_alloc ?_ _) | (with_reducible refine Kd.C_drewN ?_ _) | (with_reducible refine Kd.C_drew ?_))); (case side2 => exact HC0.out); rintro e w6 ⟨v308, rfl, ho0, hb⟩; refine ⟨_, rfl, ?_⟩; have n0_ := Aside0.mk (Kd.R_lower ho0 (below_size (by repeat (first | (with_reducible first | exact HB.out | apply below_alloc | apply pw_below_drewN | apply below_drew1) | exact HB.out)))); have n1_ := Aside0.mk (below_step (by repeat (first | (with_reducible first | exact HB.out | apply below_alloc | apply pw_below_drewN | apply below_drew1) | exact HB.out)) hb); clear HB; have HO309 := n0_; have HB := n1_; clear n0_ n1_; (try clear hb); (try clear hb2); (try clear hk); (try clear hi); (try clear ho0); obtain ⟨Ao7, co7, eo7⟩ := Kd.R_slice HO309.out; subst eo7) | ((with_reducible refine gate_callee (f := 16) rfl ?_); refine goesL_ (some 21) rfl rfl Try.func16 (by kernel_rfl) rfl #[.slice A0 l0.length c0, .slice Ao7 t306.length co7] rfl (by (try simp only [List.map_toArray, List.map_cons, List.map_nil]); first | done | rfl | (simp only [List.length_drop, List.length_take]; rfl)) ?_; (with_reducible refine (limit_Cost.calls _ _ l0 _ _ t306 t310 t311 _ ?side1 ?side2 ?side3 ?side4 A5.out).mono ?_); (case side1 => repeat (first | exact (Kd.C_below HR0.out HB.out) | (with_reducible refine Kd.C_alloc ?_ _) | (with_reducible refine Kd.C_drewN ?_ _) | (with_reducible refine Kd.C_drew ?_))); (case side2 => exact HC0.out); (case side3 => repeat (first | exact (Kd.R_reads' HO309.out).2.2 | (with_reducible refine Kd.C_alloc ?_ _) | (with_reducible refine Kd.C_drewN ?_ _) | (with_reducible refine Kd.C_drew ?_))); (case side4 => exact (Kd.R_reads' HO309.out).2.1); rintro e w8 ⟨rfl, hb⟩; refine ⟨_, rfl, ?_⟩; have n0_ := Aside0.mk (Kd.R_below (by (with_reducible repeat (first | apply Kd.R_alloc | apply Kd.R_drewN | apply Kd.R_drew)); exact HO309.out) hb); have n1_ := Aside0.mk (below_step (by repeat (first | (with_reducible first | exact HB.out | apply below_alloc | apply pw_below_drewN | apply below_drew1) | exact HB.out)) hb); clear HO309; clear HB; have HO309 := n0_; have HB := n1_; clear n0_ n1_; (try clear hb); (try clear hb2); (try clear hk); (try clear hi)))
    go_ret2
    exact ⟨by first | rfl | (simp [errW_none, errW_some] <;> rfl) | (simp [*, errW_none, errW_some] <;> rfl), by repeat (first | (with_reducible first | exact HB.out | apply below_alloc | apply pw_below_drewN | apply below_drew1) | exact HB.out)⟩
  · rw [if_neg c4] at H
    have c4b0 : (t307 == 0) = false := beq_eq_false_iff_ne.mpr c4
    have c4b1 : (t307 != 0) = true := bne_iff_ne.mpr c4
    simp only [Option.some.injEq, Prod.mk.injEq] at H
    obtain ⟨rfl, rfl⟩ := H
    go_enter Try.func17, Try.ntmps17
    go_wp2_with (first | ((with_reducible refine gate_callee (f := 9) rfl ?_); refine goesL_ (some 13) rfl rfl Try.func9 (by kernel_rfl) rfl #[.slice A0 l0.length c0, .int .i64 a1] rfl (by (try simp only [List.map_toArray, List.map_cons, List.map_nil]); first | done | rfl | (simp only [List.length_drop, List.length_take]; rfl)) ?_; (with_reducible refine (limit_Lengths.calls _ _ l0 a1 t306 t307 _ ?side1 ?side2 A3.out).mono ?_); (case side1 => repeat (first | exact HR0.out | (with_reducible refine Kd.C_alloc ?_ _) | (with_reducible refine Kd.C_drewN ?_ _) | (with_reducible refine Kd.C_drew ?_))); (case side2 => exact HC0.out); rintro e w9 ⟨v308, rfl, ho0, hb⟩; refine ⟨_, rfl, ?_⟩; have n0_ := Aside0.mk (Kd.R_lower ho0 (below_size (by repeat (first | (with_reducible first | exact HB.out | apply below_alloc | apply pw_below_drewN | apply below_drew1) | exact HB.out)))); have n1_ := Aside0.mk (below_step (by repeat (first | (with_reducible first | exact HB.out | apply below_alloc | apply pw_below_drewN | apply below_drew1) | exact HB.out)) hb); clear HB; have HO309 := n0_; have HB := n1_; clear n0_ n1_; (try clear hb); (try clear hb2); (try clear hk); (try clear hi); (try clear ho0)))
    go_ret2
    exact ⟨by first | rfl | (simp [errW_none, errW_some] <;> rfl) | (simp [*, errW_none, errW_some] <;> rfl), by repeat (first | (with_reducible first | exact HB.out | apply below_alloc | apply pw_below_drewN | apply below_drew1) | exact HB.out)⟩

end Go.Proofs.Ytdgpcjhincgijaa.Pg

-- YtdgpcjhincgijaaLp6
namespace Go.Proofs.Ytdgpcjhincgijaa.Pg
open Go.RowKit Go.Proofs.YtdgpcjhincgijaaW.PrintWords Go.Proofs.YtdgpcjhincgijaaW.PrintLast Go.Proofs.YtdgpcjhincgijaaW.PrintMore
set_option linter.unusedVariables false
set_option linter.unusedSimpArgs false
open Pr (Srt Stb wP pairP isortF haveF insF sorted_isF isortF_spec srt_unique singL singL_mem bump bumps zerosL lenF oftenS)
/-! ### Plain: what may have lengths; what these cost -/
theorem often_mk {l : List Int} (h1 : 1 ≤ l.length) (h2 : l.length ≤ 288) (h : ∀ i, i < l.length → 0 ≤ l.getD i 0 ∧ l.getD i 0 ≤ 4294967295) : oftenS l = true := by
  unfold oftenS
  rw [Bool.and_eq_true]
  refine ⟨decide_eq_true ⟨h1, h2⟩, ?_⟩
  rw [Bool.not_eq_true']
  unfold Pr.badL
  rw [List.any_eq_false]
  intro x hx
  obtain ⟨j, hj, rfl⟩ := List.getElem_of_mem hx
  have h3 := h j hj
  rw [List.getD_eq_getElem?_getD, List.getElem?_eq_getElem hj] at h3
  have h3 : 0 ≤ l[j] ∧ l[j] ≤ 4294967295 := h3
  unfold Pr.badF
  rw [decide_eq_false (by omega), decide_eq_false (by omega)]
  decide
theorem often_of {l : List Int} (h : oftenS l = true) : 1 ≤ l.length ∧ l.length ≤ 288 ∧ ∀ i, i < l.length → 0 ≤ l.getD i 0 ∧ l.getD i 0 ≤ 4294967295 := by
  have h2 := Pr.often_at h
  unfold oftenS at h
  rw [Bool.and_eq_true] at h
  obtain ⟨h3, h4⟩ := of_decide_eq_true h.1
  exact ⟨h3, h4, h2⟩
theorem lenF_mk {l : List Int} {m : Nat} (h1 : oftenS l = true) (h2 : 1 ≤ m) (h3 : m ≤ 15) (h4 : (singL l l.length).length ≤ 2 ^ m) : ∃ r, lenF l (m : Int) = (0, r) := by
  unfold lenF
  rw [if_neg (fun h => h ⟨h1, by omega, by omega⟩), Int.toNat_natCast, if_neg (by omega)]
  split
  · exact ⟨_, rfl⟩
  · exact ⟨_, rfl⟩
  · exact ⟨_, rfl⟩
theorem dot_sm (f l : List Int) : ∀ k, Pr.dotS f l k = sm k (fun i => f.getD i 0 * l.getD i 0)
  | 0 => rfl
  | k + 1 => by
    show Pr.dotS f l k + _ = sm k _ + _
    rw [dot_sm f l k]
theorem few_cases {l : List Int} {most : Int} {r : List Int} (h : lenF l most = (0, r)) (hn : (singL l l.length).length < 2) : (singL l l.length = [] ∧ r = zerosL l) ∨ (∃ j : Nat, j < l.length ∧ l.getD j 0 > 0 ∧ singL l l.length = [(l.getD j 0, [(j : Int)])] ∧ r = bumps (zerosL l) [(j : Int)]) := by
  obtain ⟨_, m, _, _, _, _, h3 | ⟨p, hp, h3⟩ | ⟨h3, _⟩⟩ := lenF_ok h
  · exact .inl h3
  · obtain ⟨j, hj, e, h4⟩ := singL_mem (l := l) (k := l.length) (p := p) (by rw [hp]; exact List.mem_cons_self)
    subst e
    exact .inr ⟨j, hj, h4, hp, h3⟩
  · omega
theorem one_getD {l : List Int} {j i : Nat} (hi : i < l.length) : (bumps (zerosL l) [(j : Int)]).getD i 0 = if j = i then 1 else 0 := by
  rw [bumps_getD (by intro s hs; rw [List.mem_singleton.1 hs]; omega) (by rw [zeros_len]; exact hi), zeros_get, List.count_singleton]
  by_cases e : j = i
  · subst e
    simp
  · rw [if_neg e, if_neg (by simpa using fun h : (j : Int) = (i : Int) => e (by omega))]
    rfl
theorem told_bound {l : List Int} {most : Int} {r : List Int} (h : lenF l most = (0, r)) {i : Nat} (hi : i < l.length) : 0 ≤ r.getD i 0 ∧ r.getD i 0 ≤ most := by
  obtain ⟨_, m0, e0, h0, _⟩ := lenF_ok h
  by_cases hn : (singL l l.length).length < 2
  · rcases few_cases h hn with ⟨_, rfl⟩ | ⟨j, _, _, _, rfl⟩
    · rw [zeros_get]
      omega
    · rw [one_getD hi]
      split <;> omega
  · obtain ⟨m, ss, rfl, _, _, _, ht⟩ := lenF_told h (by omega)
    exact ht.all hi
theorem told_lens {l : List Int} {most : Int} {r : List Int} (h : lenF l most = (0, r)) : lensS r = true := by
  obtain ⟨h1, m, rfl, _, h2, _⟩ := lenF_ok h
  obtain ⟨h3, h4, _⟩ := often_of h1
  have hl := lenF_len h
  refine (lensS_iff r).2 ⟨by omega, by omega, fun x hx => ?_⟩
  obtain ⟨j, hj, rfl⟩ := List.getElem_of_mem hx
  have := told_bound h (i := j) (by omega)
  rw [List.getD_eq_getElem?_getD, List.getElem?_eq_getElem hj] at this
  have : 0 ≤ r[j] ∧ r[j] ≤ (m : Int) := this
  omega
theorem told_cost {l : List Int} {most : Int} {r : List Int} (h : lenF l most = (0, r)) : Pr.costS l r = (sm l.length (fun i => l.getD i 0 * r.getD i 0), 0) := by
  unfold Pr.costS
  rw [if_pos ⟨(lenF_ok h).1, (lenF_len h).symm, (lensS_check r).1 (told_lens h)⟩, dot_sm]
theorem cost_ok {l : List Int} {most : Int} {r : List Int} (h : lenF l most = (0, r)) : valiselaw05_cost.f l most = some (sm l.length (fun i => l.getD i 0 * r.getD i 0), true) := by
  unfold valiselaw05_cost.f limit_Lengths.f limit_Cost.f
  simp only [Option.bind_some]
  rw [h]
  dsimp only
  rw [if_pos rfl, told_cost h]
  rfl
theorem cost_bad {l : List Int} {most : Int} (h : (lenF l most).1 ≠ 0) : valiselaw05_cost.f l most = some (0, false) := by
  unfold valiselaw05_cost.f limit_Lengths.f
  simp only [Option.bind_some]
  rw [if_neg h]
theorem sing_all {l : List Int} (h : ∀ i, i < l.length → l.getD i 0 > 0) : ∀ k, k ≤ l.length → (singL l k).length = k
  | 0, _ => rfl
  | k + 1, hk => by rw [Pr.singL_succ, if_pos (h k (by omega)), List.length_append, sing_all h k (by omega)]; rfl
theorem sm_bound {F : Nat → Int} {B : Nat} : ∀ {n : Nat}, (∀ t, t < n → 0 ≤ F t ∧ F t ≤ B) → 0 ≤ sm n F ∧ sm n F ≤ (n * B : Nat)
  | 0, _ => ⟨Int.le_refl _, by rw [Nat.zero_mul]; exact Int.le_refl _⟩
  | n + 1, h => by
    have h1 := sm_bound (F := F) (B := B) (n := n) (fun t ht => h t (by omega))
    have h2 := h n (by omega)
    rw [Nat.succ_mul]
    show 0 ≤ sm n F + F n ∧ sm n F + F n ≤ _
    omega
end Go.Proofs.Ytdgpcjhincgijaa.Pg

