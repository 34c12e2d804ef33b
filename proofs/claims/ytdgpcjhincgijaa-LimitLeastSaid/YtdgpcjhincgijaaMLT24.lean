-- Texts by hand and by programs of this session, joined (wip/tool/merge.py).
import Derived.Test.YtdgpcjhincgijaaMLT21
import Derived.Test.YtdgpcjhincgijaaMLT23
-- YtdgpcjhincgijaaLp11
namespace Go.Proofs.Ytdgpcjhincgijaa.Pg
open Go.RowKit Go.Proofs.YtdgpcjhincgijaaW.PrintWords Go.Proofs.YtdgpcjhincgijaaW.PrintLast Go.Proofs.YtdgpcjhincgijaaW.PrintMore
set_option linter.unusedVariables false
set_option linter.unusedSimpArgs false
open Pr (Srt Stb wP pairP isortF haveF insF sorted_isF isortF_spec srt_unique singL singL_mem bump bumps zerosL lenF oftenS)
/-! ### Plain: the rows of lengths, one after the other -/
def Valid (m : Nat) (L : List Int) : Prop := ∀ x ∈ L, 1 ≤ x ∧ x ≤ (m : Int)
def valL (m : Nat) : List Int → Nat
  | [] => 0
  | x :: t => (x - 1).toNat + m * valL m t
def nextL (m : Nat) : List Int → Bool × List Int
  | [] => (false, [])
  | x :: t => if x < (m : Int) then (true, (x + 1) :: t) else ((nextL m t).1, 1 :: (nextL m t).2)
theorem nextL_len (m : Nat) : ∀ L, (nextL m L).2.length = L.length
  | [] => rfl
  | x :: t => by
    unfold nextL
    split
    · rfl
    · rw [List.length_cons, nextL_len m t, List.length_cons]
theorem nextL_val {m : Nat} (hm : 1 ≤ m) : ∀ L, Valid m L → Valid m (nextL m L).2 ∧ ((nextL m L).1 = true → valL m (nextL m L).2 = valL m L + 1) ∧ ((nextL m L).1 = false → valL m L + 1 = m ^ L.length)
  | [], _ => ⟨fun x hx => (by cases hx), fun h => (by cases h), fun _ => rfl⟩
  | x :: t, h => by
    have hx := h x List.mem_cons_self
    have ht : Valid m t := fun y hy => h y (List.mem_cons_of_mem _ hy)
    obtain ⟨i1, i2, i3⟩ := nextL_val hm t ht
    unfold nextL
    by_cases hc : x < (m : Int)
    · rw [if_pos hc]
      refine ⟨fun y hy => ?_, fun _ => ?_, fun hf => (by cases hf)⟩
      · rcases List.mem_cons.1 hy with rfl | hy
        · omega
        · exact ht y hy
      · show (x + 1 - 1).toNat + m * valL m t = (x - 1).toNat + m * valL m t + 1
        omega
    · rw [if_neg hc]
      refine ⟨fun y hy => ?_, fun hb => ?_, fun hb => ?_⟩
      · rcases List.mem_cons.1 hy with rfl | hy
        · omega
        · exact i1 y hy
      · have h1 := i2 hb
        show ((1 : Int) - 1).toNat + m * valL m (nextL m t).2 = (x - 1).toNat + m * valL m t + 1
        rw [h1, Nat.mul_add]
        omega
      · have h1 := i3 hb
        show (x - 1).toNat + m * valL m t + 1 = m ^ (t.length + 1)
        rw [Nat.pow_succ, ← h1, Nat.mul_comm _ m, Nat.mul_add]
        omega
theorem valL_inj {m : Nat} (hm : 1 ≤ m) : ∀ L K : List Int, L.length = K.length → Valid m L → Valid m K → valL m L = valL m K → L = K
  | [], [], _, _, _, _ => rfl
  | [], _ :: _, h, _, _, _ => by simp at h
  | _ :: _, [], h, _, _, _ => by simp at h
  | x :: t, y :: s, h, hl, hk, hv => by
    have hx := hl x List.mem_cons_self
    have hy := hk y List.mem_cons_self
    have hv : (x - 1).toNat + m * valL m t = (y - 1).toNat + m * valL m s := hv
    have h1 : ((x - 1).toNat + m * valL m t) % m = (x - 1).toNat := by rw [Nat.add_mul_mod_self_left, Nat.mod_eq_of_lt (by omega)]
    have h2 : ((y - 1).toNat + m * valL m s) % m = (y - 1).toNat := by rw [Nat.add_mul_mod_self_left, Nat.mod_eq_of_lt (by omega)]
    have h3 : (x - 1).toNat = (y - 1).toNat := by rw [← h1, hv, h2]
    have h4 : valL m t = valL m s := Nat.eq_of_mul_eq_mul_left (show 0 < m by omega) (by omega)
    rw [show x = y by omega, valL_inj hm t s (by simpa using h) (fun z hz => hl z (List.mem_cons_of_mem _ hz)) (fun z hz => hk z (List.mem_cons_of_mem _ hz)) h4]
theorem next_l0 (m : Nat) (hm : m ≤ 4) : ∀ (t pre : List Int) (k : Nat), Valid m t → pre.length + t.length ≤ 100 → t.length < k → valiselaw05_next.l0 k (pre ++ t) (m : Int) (pre.length : Int) = some ((nextL m t).1, pre ++ (nextL m t).2)
  | t, pre, 0, _, _, hk => by omega
  | [], pre, k + 1, _, _, _ => by
    rw [valiselaw05_next.l0, if_neg (by rw [List.append_nil]; omega)]
    rfl
  | x :: t, pre, k + 1, hv, hl, hk => by
    have hx := hv x List.mem_cons_self
    rw [List.length_cons] at hl hk
    have ih := next_l0 m hm t (pre ++ [1]) k (fun y hy => hv y (List.mem_cons_of_mem _ hy)) (by rw [List.length_append, List.length_singleton]; omega) (by omega)
    have e1 : rd (pre ++ x :: t) (pre.length : Int) = x := by unfold rd; rw [Int.toNat_natCast]; simp
    have e2 : (pre ++ x :: t).set ((pre.length : Int)).toNat (wrap64 (x + 1)) = pre ++ (x + 1) :: t := by rw [Int.toNat_natCast, Pr.wrap64_id (by omega) (by omega)]; simp
    have e3 : (pre ++ x :: t).set ((pre.length : Int)).toNat 1 = pre ++ [1] ++ t := by rw [Int.toNat_natCast]; simp
    rw [valiselaw05_next.l0, if_pos (by rw [List.length_append, List.length_cons]; omega), if_pos (by omega), e1]
    unfold nextL
    by_cases hc : x < (m : Int)
    · rw [if_pos hc, e2, if_pos hc]
    · rw [if_neg hc, if_neg hc, e3, w_next (by omega)]
      rw [List.length_append, List.length_singleton] at ih
      rw [ih]
      simp
theorem next_eq {m : Nat} (hm : m ≤ 4) {L : List Int} (hv : Valid m L) (hl : L.length ≤ 5) {k : Nat} (hk : 10 ≤ k) : valiselaw05_next.f k L (m : Int) = some (nextL m L) := by
  unfold valiselaw05_next.f
  exact next_l0 m hm L [] k hv (by simp; omega) (by omega)
theorem valid_at {m : Nat} {L : List Int} (h : Valid m L) {i : Nat} (hi : i < L.length) : 1 ≤ L.getD i 0 ∧ L.getD i 0 ≤ (m : Int) := by
  rw [List.getD_eq_getElem?_getD, List.getElem?_eq_getElem hi]
  exact h _ (List.getElem_mem hi)
/-! ### Plain: no row of lengths costs less -/
def atLv (L : List Int) (t : Int) (p : PK) : Bool := decide (L.getD (p.2.headD 0).toNat 0 > t)
theorem lv_sums {F : List Int} (hF : ∀ i, i < F.length → F.getD i 0 > 0) (L : List Int) (t : Int) : ∀ k, k ≤ F.length → (((singL F k).filter (atLv L t)).length : Int) = sm k (fun i => if L.getD i 0 > t then 1 else 0) ∧ sumF wP ((singL F k).filter (atLv L t)) = sm k (fun i => if L.getD i 0 > t then F.getD i 0 else 0)
  | 0, _ => ⟨rfl, rfl⟩
  | k + 1, hk => by
    obtain ⟨h1, h2⟩ := lv_sums hF L t k (by omega)
    rw [Pr.singL_succ, if_pos (hF k (by omega)), List.filter_append, sumF_append, List.length_append, Int.natCast_add, h1, h2]
    have e : atLv L t (F.getD k 0, [(k : Int)]) = decide (L.getD k 0 > t) := by simp [atLv]
    show sm k _ + _ = sm k _ + (if L.getD k 0 > t then (1 : Int) else 0) ∧ sm k _ + _ = sm k _ + (if L.getD k 0 > t then F.getD k 0 else 0)
    rw [List.filter_cons, e]
    by_cases h : L.getD k 0 > t
    · rw [if_pos (decide_eq_true h), if_pos h, if_pos h]
      refine ⟨rfl, ?_⟩
      simp [sumF, wP]
    · rw [if_neg (by rw [decide_eq_false h]; decide), if_neg h, if_neg h]
      exact ⟨rfl, rfl⟩
theorem lv_least {F : List Int} (L : List Int) (t : Int) : sumF wP ((isortF (singL F F.length)).take ((singL F F.length).filter (atLv L t)).length) ≤ sumF wP ((singL F F.length).filter (atLv L t)) :=
  least_take _ _ ((singL F F.length).filter (fun x => !atLv L t x)) (isortF_spec _).1 ((isortF_perm _).trans (List.filter_append_perm _ _).symm)
theorem sm_lin3 (a b c : Nat → Int) : ∀ n, 8 * sm n a + 4 * sm n b + 2 * sm n c = sm n (fun i => 8 * a i + 4 * b i + 2 * c i)
  | 0 => rfl
  | n + 1 => by
    have := sm_lin3 a b c n
    show 8 * (sm n a + a n) + 4 * (sm n b + b n) + 2 * (sm n c + c n) = sm n _ + (8 * a n + 4 * b n + 2 * c n)
    omega
theorem sm_lin4 (a b c d : Nat → Int) : ∀ n, 16 * sm n a + 8 * sm n b + 4 * sm n c + 2 * sm n d = sm n (fun i => 16 * a i + 8 * b i + 4 * c i + 2 * d i)
  | 0 => rfl
  | n + 1 => by
    have := sm_lin4 a b c d n
    show 16 * (sm n a + a n) + 8 * (sm n b + b n) + 4 * (sm n c + c n) + 2 * (sm n d + d n) = sm n _ + (16 * a n + 8 * b n + 4 * c n + 2 * d n)
    omega
theorem sm_scale (p q r : Int) (F G : Nat → Int) : ∀ {n : Nat}, (∀ i, i < n → p * F i + G i = q) → p * sm n F + sm n G = n * q
  | 0, _ => by show p * 0 + 0 = ((0 : Nat) : Int) * q; simp
  | n + 1, h => by
    have h1 := sm_scale p q r F G (n := n) (fun i hi => h i (by omega))
    have h2 := h n (by omega)
    show p * (sm n F + F n) + (sm n G + G n) = ((n + 1 : Nat) : Int) * q
    rw [Int.mul_add, Int.natCast_add, Int.add_mul]
    omega
def tkL (L : List Int) (i : Nat) : Int := sm i (fun i => ((2 ^ (8 - (L.getD i 0).toNat) : Nat) : Int))
def smL (F L : List Int) (i : Nat) : Int := sm i (fun i => F.getD i 0 * L.getD i 0)
theorem pow_cases {x : Int} (h : x = 1 ∨ x = 2 ∨ x = 3 ∨ x = 4) : ((2 ^ (8 - x.toNat) : Nat) : Int) = if x = 1 then 128 else if x = 2 then 64 else if x = 3 then 32 else 16 := by
  rcases h with rfl | rfl | rfl | rfl <;> rfl
/-- What the least lengths cost is no more than what any row costs that a code may have. -/
theorem opt {F : List Int} (hF : ∀ i, i < F.length → F.getD i 0 > 0) (hn : 2 ≤ F.length) {m : Nat} (hm : m = 3 ∨ m = 4) {L : List Int} (hl : L.length = F.length) (hv : Valid m L) (ht : tkL L F.length ≤ 256) : sumF wP ((haveF (isortF (singL F F.length)) m).take (2 * F.length - 2)) ≤ smL F L F.length := by
  have hsl : (singL F F.length).length = F.length := sing_all hF _ (Nat.le_refl _)
  have hSl : (isortF (singL F F.length)).length = F.length := by rw [(isortF_perm _).length_eq, hsl]
  have hq : ∀ t, ((singL F F.length).filter (atLv L t)).length ≤ (isortF (singL F F.length)).length := fun t => by
    rw [hSl]
    exact Nat.le_trans (List.length_filter_le _ _) (Nat.le_of_eq hsl)
  have c0 := lv_sums hF L 0 F.length (Nat.le_refl _)
  have c1 := lv_sums hF L 1 F.length (Nat.le_refl _)
  have c2 := lv_sums hF L 2 F.length (Nat.le_refl _)
  have c3 := lv_sums hF L 3 F.length (Nat.le_refl _)
  have l0 := lv_least (F := F) L 0
  have l1 := lv_least (F := F) L 1
  have l2 := lv_least (F := F) L 2
  have l3 := lv_least (F := F) L 3
  have hS := (isortF_spec (singL F F.length)).1
  have hP := sing_pos F
  have q0 := hq 0
  have q1 := hq 1
  have q2 := hq 2
  have q3 := hq 3
  obtain ⟨p0, hp0⟩ : ∃ p0, ((singL F F.length).filter (atLv L 0)).length = p0 := ⟨_, rfl⟩
  obtain ⟨p1, hp1⟩ : ∃ p1, ((singL F F.length).filter (atLv L 1)).length = p1 := ⟨_, rfl⟩
  obtain ⟨p2, hp2⟩ : ∃ p2, ((singL F F.length).filter (atLv L 2)).length = p2 := ⟨_, rfl⟩
  obtain ⟨p3, hp3⟩ : ∃ p3, ((singL F F.length).filter (atLv L 3)).length = p3 := ⟨_, rfl⟩
  rw [hp0] at c0 l0 q0
  rw [hp1] at c1 l1 q1
  rw [hp2] at c2 l2 q2
  rw [hp3] at c3 l3 q3
  rw [c0.2] at l0
  rw [c1.2] at l1
  rw [c2.2] at l2
  rw [c3.2] at l3
  have c0 := c0.1
  have c1 := c1.1
  have c2 := c2.1
  have c3 := c3.1
  unfold tkL at ht
  unfold smL
  rcases hm with rfl | rfl
  · have hb := buys hS hP [p0, p1, p2] (2 * F.length - 2) (by
      intro q hq
      simp only [List.mem_cons, List.not_mem_nil, or_false] at hq
      rcases hq with rfl | rfl | rfl <;> assumption) (by
      have hk := sm_scale 16 256 0 (fun i => 8 * (if L.getD i 0 > 0 then 1 else 0) + 4 * (if L.getD i 0 > 1 then 1 else 0) + 2 * (if L.getD i 0 > 2 then 1 else 0)) (fun i => ((2 ^ (8 - (L.getD i 0).toNat) : Nat) : Int)) (n := F.length) (fun i hi => by
        have hx := valid_at hv (i := i) (by omega)
        generalize L.getD i 0 = x at *
        rw [pow_cases (by omega)]
        rcases (by omega : x = 1 ∨ x = 2 ∨ x = 3) with rfl | rfl | rfl <;> decide)
      rw [← sm_lin3, ← c0, ← c1, ← c2] at hk
      show (2 * F.length - 2) * 8 ≤ p0 * 8 + (p1 * 4 + (p2 * 2 + 0))
      omega)
    refine Int.le_trans hb.2 ?_
    simp only [List.map_cons, List.map_nil, List.sum_cons, List.sum_nil]
    have e : sm F.length (fun i => F.getD i 0 * L.getD i 0) = sm F.length (fun i => if L.getD i 0 > 0 then F.getD i 0 else 0) + sm F.length (fun i => if L.getD i 0 > 1 then F.getD i 0 else 0) + sm F.length (fun i => if L.getD i 0 > 2 then F.getD i 0 else 0) := by
      rw [← sm_add, ← sm_add]
      refine sm_congr fun i hi => ?_
      have hx := valid_at hv (i := i) (by omega)
      generalize L.getD i 0 = x at *
      generalize F.getD i 0 = y at *
      rcases (by omega : x = 1 ∨ x = 2 ∨ x = 3) with rfl | rfl | rfl <;> simp <;> omega
    rw [e]
    omega
  · have hb := buys hS hP [p0, p1, p2, p3] (2 * F.length - 2) (by
      intro q hq
      simp only [List.mem_cons, List.not_mem_nil, or_false] at hq
      rcases hq with rfl | rfl | rfl | rfl <;> assumption) (by
      have hk := sm_scale 8 256 0 (fun i => 16 * (if L.getD i 0 > 0 then 1 else 0) + 8 * (if L.getD i 0 > 1 then 1 else 0) + 4 * (if L.getD i 0 > 2 then 1 else 0) + 2 * (if L.getD i 0 > 3 then 1 else 0)) (fun i => ((2 ^ (8 - (L.getD i 0).toNat) : Nat) : Int)) (n := F.length) (fun i hi => by
        have hx := valid_at hv (i := i) (by omega)
        generalize L.getD i 0 = x at *
        rw [pow_cases (by omega)]
        rcases (by omega : x = 1 ∨ x = 2 ∨ x = 3 ∨ x = 4) with rfl | rfl | rfl | rfl <;> decide)
      rw [← sm_lin4, ← c0, ← c1, ← c2, ← c3] at hk
      show (2 * F.length - 2) * 16 ≤ p0 * 16 + (p1 * 8 + (p2 * 4 + (p3 * 2 + 0)))
      omega)
    refine Int.le_trans hb.2 ?_
    simp only [List.map_cons, List.map_nil, List.sum_cons, List.sum_nil]
    have e : sm F.length (fun i => F.getD i 0 * L.getD i 0) = sm F.length (fun i => if L.getD i 0 > 0 then F.getD i 0 else 0) + sm F.length (fun i => if L.getD i 0 > 1 then F.getD i 0 else 0) + sm F.length (fun i => if L.getD i 0 > 2 then F.getD i 0 else 0) + sm F.length (fun i => if L.getD i 0 > 3 then F.getD i 0 else 0) := by
      rw [← sm_add, ← sm_add, ← sm_add]
      refine sm_congr fun i hi => ?_
      have hx := valid_at hv (i := i) (by omega)
      generalize L.getD i 0 = x at *
      generalize F.getD i 0 = y at *
      rcases (by omega : x = 1 ∨ x = 2 ∨ x = 3 ∨ x = 4) with rfl | rfl | rfl | rfl <;> simp <;> omega
    rw [e]
    omega
/-! ### Plain: LimitLeast -/
theorem shl_8 (x : Int) (h1 : 1 ≤ x) (h4 : x ≤ 4) : wrap64 (8 - x) = ((8 - x.toNat : Nat) : Int) ∧ shl .i64 1 ((8 - x.toNat : Nat) : Int) = ((2 ^ (8 - x.toNat) : Nat) : Int) ∧ ((2 ^ (8 - x.toNat) : Nat) : Int) ≤ 128 ∧ 0 ≤ ((2 ^ (8 - x.toNat) : Nat) : Int) := by
  refine ⟨by rw [Pr.wrap64_id (by omega) (by omega)]; omega, shl_15 _ (by omega), ?_⟩
  rcases (by omega : x = 1 ∨ x = 2 ∨ x = 3 ∨ x = 4) with rfl | rfl | rfl | rfl <;> decide
structure LeastS (F : List Int) (m : Nat) (r : List Int) : Prop where
  n2 : 2 ≤ F.length
  n5 : F.length ≤ 5
  mm : m = 3 ∨ m = 4
  pos : ∀ i, i < F.length → 1 ≤ F.getD i 0 ∧ F.getD i 0 ≤ 65536
  told : lenF F (m : Int) = (0, r)
theorem LeastS.valid {F : List Int} {m : Nat} {r : List Int} (h : LeastS F m r) : Valid m r ∧ r.length = F.length := by
  have hl := lenF_len h.told
  refine ⟨fun x hx => ?_, hl⟩
  obtain ⟨i, hi, rfl⟩ := List.getElem_of_mem hx
  have h1 := told_used h.told (i := i) (by omega)
  have h2 := told_bound h.told (i := i) (by omega)
  have h3 := h.pos i (by omega)
  have h4 := h1.2 (by omega)
  rw [List.getD_eq_getElem?_getD, List.getElem?_eq_getElem hi] at h2 h4
  have h2 : 0 ≤ r[i] ∧ r[i] ≤ (m : Int) := h2
  have h4 : r[i] > 0 := h4
  omega
theorem LeastS.sing {F : List Int} {m : Nat} {r : List Int} (h : LeastS F m r) : (singL F F.length).length = F.length := sing_all (fun i hi => by have := h.pos i hi; omega) _ (Nat.le_refl _)
/-- The lengths told are a row that takes all there is, and costs least. -/
theorem LeastS.takes {F : List Int} {m : Nat} {r : List Int} (h : LeastS F m r) : tkL r F.length = 256 := by
  have ht := told_takes h.told
  obtain ⟨hv, hl⟩ := h.valid
  have hmm := h.mm
  rw [if_neg (by rw [h.sing]; have := h.n2; omega), hl] at ht
  have hk := sm_scale (-128) 0 0 (fun i => ((2 ^ (8 - (r.getD i 0).toNat) : Nat) : Int)) (fun i => if r.getD i 0 > 0 then ((2 ^ (15 - (r.getD i 0).toNat) : Nat) : Int) else 0) (n := F.length) (fun i hi => by
    have hx := valid_at hv (i := i) (by omega)
    generalize r.getD i 0 = x at *
    rcases (by omega : x = 1 ∨ x = 2 ∨ x = 3 ∨ x = 4) with rfl | rfl | rfl | rfl <;> decide)
  unfold tkS at ht
  unfold tkL
  omega
theorem LeastS.best {F : List Int} {m : Nat} {r : List Int} (h : LeastS F m r) {L : List Int} (hl : L.length = F.length) (hv : Valid m L) (ht : tkL L F.length ≤ 256) : smL F r F.length ≤ smL F L F.length := by
  have hp : ∀ i, i < F.length → F.getD i 0 > 0 := fun i hi => by have := h.pos i hi; omega
  obtain ⟨m', ss, e, _, _, _, t1⟩ := lenF_told h.told (by rw [h.sing]; exact h.n2)
  obtain rfl : m = m' := by omega
  have h1 := opt hp h.n2 h.mm hl hv ht
  have h2 := t1.cost (fun i hi => by have := hp i hi; omega)
  rw [h.sing] at h2
  unfold smL at h1 ⊢
  rw [h2]
  exact h1
theorem sm_le5 {F L : List Int} {m : Nat} (hm : m ≤ 4) (hn : F.length ≤ 5) (hF : ∀ i, i < F.length → 1 ≤ F.getD i 0 ∧ F.getD i 0 ≤ 65536) (hl : L.length = F.length) (hv : Valid m L) {n : Nat} (h : n ≤ F.length) : (0 ≤ smL F L n ∧ smL F L n ≤ 2000000) ∧ (0 ≤ tkL L n ∧ tkL L n ≤ 1000) := by
  have h1 := sm_bound (F := fun i => F.getD i 0 * L.getD i 0) (B := 262144) (n := n) (fun t ht => by
    have h5 := hF t (by omega)
    have h6 := valid_at hv (i := t) (by omega)
    refine ⟨Int.mul_nonneg (by omega) (by omega), ?_⟩
    exact Int.le_trans (Int.mul_le_mul h5.2 (show _ ≤ (4 : Int) by omega) (by omega) (by omega)) (by decide))
  have h2 := sm_bound (F := fun i => ((2 ^ (8 - (L.getD i 0).toNat) : Nat) : Int)) (B := 128) (n := n) (fun t ht => by
    have h6 := valid_at hv (i := t) (by omega)
    have h7 := shl_8 (L.getD t 0) (by omega) (by omega)
    exact ⟨h7.2.2.2, h7.2.2.1⟩)
  have h3 : n * 262144 ≤ 5 * 262144 := Nat.mul_le_mul_right _ (by omega)
  have h4 : n * 128 ≤ 5 * 128 := Nat.mul_le_mul_right _ (by omega)
  unfold smL tkL
  omega
theorem least_l2' {F L : List Int} {m : Nat} (c : Int) (met : Bool) (hm : m ≤ 4) (hn : F.length ≤ 5) (hF : ∀ i, i < F.length → 1 ≤ F.getD i 0 ∧ F.getD i 0 ≤ 65536) (hl : L.length = F.length) (hv : Valid m L) (R : Option Bool) (K : Nat) (hR : ∀ k, K ≤ k → valiselaw05_LimitLeast.j4 k (F.length : Int) (m : Int) F L c met (tkL L F.length) (smL F L F.length) (decide (tkL L F.length ≤ 256 ∧ smL F L F.length < c)) = R) : ∀ (n i k : Nat), i + n = F.length → K + n < k → valiselaw05_LimitLeast.l2 k (F.length : Int) (m : Int) F L c met (tkL L i) (smL F L i) (i : Int) = R
  | n, i, 0, _, hk => by omega
  | 0, i, k + 1, hi, hk => by
    obtain rfl : i = F.length := by omega
    have h := hR k (by omega)
    rw [valiselaw05_LimitLeast.l2, if_neg (by omega)]
    by_cases h1 : tkL L F.length ≤ 256
    · rw [if_pos h1, ← h]
      congr 1
      exact decide_eq_decide.2 ⟨fun h2 => ⟨h1, h2⟩, fun h2 => h2.2⟩
    · rw [if_neg h1, ← h]
      congr 1
      exact (decide_eq_false (fun h2 => h1 h2.1)).symm
  | n + 1, i, k + 1, hi, hk => by
    have ih := least_l2' c met hm hn hF hl hv R K hR n (i + 1) k (by omega) (by omega)
    have e1 : rd F (i : Int) = F.getD i 0 := by unfold rd; rw [Int.toNat_natCast]
    have e2 : rd L (i : Int) = L.getD i 0 := by unfold rd; rw [Int.toNat_natCast]
    have hx := valid_at hv (i := i) (by omega)
    obtain ⟨s1, s2, s3, s4⟩ := shl_8 (L.getD i 0) hx.1 (by omega)
    have b1 := sm_le5 hm hn hF hl hv (n := i) (by omega)
    have b2 := sm_le5 hm hn hF hl hv (n := i + 1) (by omega)
    have e3 : tkL L (i + 1) = tkL L i + ((2 ^ (8 - (L.getD i 0).toNat) : Nat) : Int) := rfl
    have e4 : smL F L (i + 1) = smL F L i + F.getD i 0 * L.getD i 0 := rfl
    rw [e3, e4] at b2 ih
    rw [valiselaw05_LimitLeast.l2, if_pos (by omega), if_pos (by omega), if_pos (by omega), e1, e2, s1, if_pos (by omega), if_pos (by omega), s2]
    generalize F.getD i 0 * L.getD i 0 = z at *
    generalize ((2 ^ (8 - (L.getD i 0).toNat) : Nat) : Int) = y at *
    rw [Pr.wrap64_id (n := tkL L i + y) (by omega) (by omega), Pr.wrap64_id (n := z) (by omega) (by omega), Pr.wrap64_id (n := smL F L i + z) (by omega) (by omega), w_next (by omega)]
    exact ih
theorem least_loop (q : Nat) (hq : 60 ≤ q) {F : List Int} {m : Nat} {r : List Int} (h : LeastS F m r) : ∀ (d : Nat) (L : List Int) (met : Bool) (k : Nat), L.length = F.length → Valid m L → valL m L + d + 1 = m ^ F.length → (met = true ∨ valL m L ≤ valL m r) → d * q + 300 < k → valiselaw05_LimitLeast.l1 k (F.length : Int) (m : Int) F L (smL F r F.length) met = some true := by
  intro d
  induction d using Nat.strongRecOn with
  | ind d ihd =>
    intro L met k hl hv hd hmet hk
    obtain ⟨k, rfl⟩ : ∃ k', k = k' + 1 := ⟨k - 1, by omega⟩
    have hmm := h.mm
    have hn5 := h.n5
    obtain ⟨hrv, hrl⟩ := h.valid
    rw [valiselaw05_LimitLeast.l1]
    refine least_l2' (smL F r F.length) met (by omega) hn5 h.pos hl hv (some true) (k - 10) (fun k1 hk1 => ?_) F.length 0 k (by omega) (by omega)
    obtain ⟨k1, rfl⟩ : ∃ k', k1 = k' + 1 := ⟨k1 - 1, by omega⟩
    have hno : decide (tkL L F.length ≤ 256 ∧ smL F L F.length < smL F r F.length) = false := decide_eq_false (fun hh => by
      have := h.best hl hv hh.1
      omega)
    obtain ⟨n1, n2, n3⟩ := nextL_val (m := m) (by omega) L hv
    have nl := nextL_len m L
    -- what comes behind: 'met2' is whether the least was met up to here
    have hmet2 : ∀ met2 : Bool, (met2 = true ∨ valL m L < valL m r) → (nextL m L).1 = true → valiselaw05_LimitLeast.l1 k1 (F.length : Int) (m : Int) F (nextL m L).2 (smL F r F.length) met2 = some true := fun met2 h2 hb => by
      have h3 := n2 hb
      have hd1 : 1 ≤ d := by
        refine Nat.pos_of_ne_zero fun e => ?_
        subst e
        have hlt : ∀ M : List Int, Valid m M → valL m M + 1 ≤ m ^ M.length := by
          intro M
          induction M with
          | nil => intro _; exact Nat.le_refl _
          | cons x t ih =>
            intro hM
            have hx := hM x List.mem_cons_self
            have ht := ih (fun y hy => hM y (List.mem_cons_of_mem _ hy))
            show (x - 1).toNat + m * valL m t + 1 ≤ m ^ (t.length + 1)
            have h5 : m * (valL m t + 1) ≤ m * m ^ t.length := Nat.mul_le_mul_left _ ht
            rw [Nat.mul_add] at h5
            rw [Nat.pow_succ, Nat.mul_comm _ m]
            omega
        have := hlt _ n1
        rw [nl, hl] at this
        omega
      obtain ⟨d, rfl⟩ : ∃ d', d = d' + 1 := ⟨d - 1, by omega⟩
      rw [Nat.succ_mul] at hk
      exact ihd d (by omega) _ _ _ (by rw [nl]; exact hl) n1 (by omega) (by
        rcases h2 with h2 | h2
        · exact .inl h2
        · exact .inr (by omega)) (by omega)
    have hend : (nextL m L).1 = false → met = true ∨ L = r := fun hb => by
      have h3 := n3 hb
      rcases hmet with h4 | h4
      · exact .inl h4
      · refine .inr (valL_inj (m := m) (by omega) L r (by omega) hv hrv ?_)
        have hlt : ∀ M : List Int, Valid m M → valL m M + 1 ≤ m ^ M.length := by
          intro M
          induction M with
          | nil => intro _; exact Nat.le_refl _
          | cons x t ih =>
            intro hM
            have hx := hM x List.mem_cons_self
            have ht := ih (fun y hy => hM y (List.mem_cons_of_mem _ hy))
            show (x - 1).toNat + m * valL m t + 1 ≤ m ^ (t.length + 1)
            have h5 : m * (valL m t + 1) ≤ m * m ^ t.length := Nat.mul_le_mul_left _ ht
            rw [Nat.mul_add] at h5
            rw [Nat.pow_succ, Nat.mul_comm _ m]
            omega
        have h5 := hlt r hrv
        rw [hrl] at h5
        rw [hl] at h3
        omega
    have hsame : met = false → valL m L < valL m r ∨ L = r := fun hf => by
      rcases hmet with h4 | h4
      · rw [hf] at h4
        cases h4
      · by_cases e : valL m L = valL m r
        · exact .inr (valL_inj (m := m) (by omega) L r (by omega) hv hrv e)
        · exact .inl (by omega)
    have hnx := next_eq (m := m) (by omega) hv (by omega) (k := k1) (by omega)
    have hlv := lives_at (k := k1) (by omega)
    rw [hno, valiselaw05_LimitLeast.j4, if_neg (by decide), hnx]
    simp only [Option.bind_some]
    cases met with
    | true =>
      rw [if_pos rfl]
      cases hb : (nextL m L).1 with
      | true => rw [if_pos rfl]; exact hmet2 true (.inl rfl) hb
      | false => rw [if_neg (by decide), hlv]; rfl
    | false =>
      rw [if_neg (by decide)]
      by_cases ht : tkL L F.length = 256
      · rw [if_pos ht]
        cases hb : (nextL m L).1 with
        | true =>
          rw [if_pos rfl]
          refine hmet2 _ ?_ hb
          rcases hsame rfl with h5 | h5
          · exact .inr h5
          · exact .inl (by rw [h5]; exact beq_self_eq_true _)
        | false =>
          rcases hend hb with h5 | h5
          · cases h5
          · rw [if_neg (by decide), if_pos (by rw [h5]), hlv]
            rfl
      · have hLr : L ≠ r := fun e => ht (by rw [e]; exact h.takes)
        rw [if_neg ht]
        cases hb : (nextL m L).1 with
        | true =>
          rw [if_pos rfl]
          refine hmet2 _ ?_ hb
          rcases hsame rfl with h5 | h5
          · exact .inr h5
          · exact absurd h5 hLr
        | false =>
          rcases hend hb with h5 | h5
          · cases h5
          · exact absurd h5 hLr
theorem least_l0' {z : List Int} {n m : Nat} {r : List Int} (hz : n ≤ z.length) (hw : ∀ i, i < z.length → 0 ≤ z.getD i 0 ∧ z.getD i 0 ≤ 65535) (h : LeastS ((z.take n).map (fun x => 1 + x)) m r) (hn : n ≤ 5) : ∀ (d i k : Nat), i + d = n → d + 200000 < k → valiselaw05_LimitLeast.l0 k (n : Int) (m : Int) z ((z.take i).map (fun x => 1 + x)) (List.replicate i 1) (i : Int) = some true
  | d, i, 0, _, hk => by omega
  | 0, i, k + 1, hi, hk => by
    obtain rfl : i = n := by omega
    have hFl : ((z.take i).map (fun x => 1 + x)).length = i := by rw [List.length_map, List.length_take]; omega
    have hc : sm ((z.take i).map (fun x => 1 + x)).length (fun j => ((z.take i).map (fun x => 1 + x)).getD j 0 * r.getD j 0) = smL ((z.take i).map (fun x => 1 + x)) r ((z.take i).map (fun x => 1 + x)).length := rfl
    have hmm := h.mm
    have hpow : m ^ i ≤ 4 ^ 5 := Nat.le_trans (Nat.pow_le_pow_left (by omega) _) (Nat.pow_le_pow_right (by omega) hn)
    rw [valiselaw05_LimitLeast.l0, if_neg (by omega), cost_ok h.told, hc]
    simp only [Option.bind_some]
    rw [if_pos trivial]
    have hv : Valid m (List.replicate i (1 : Int)) := fun x hx => by
      rw [List.eq_of_mem_replicate hx]
      omega
    have hval : ∀ n, valL m (List.replicate n (1 : Int)) = 0 := by
      intro n
      induction n with
      | zero => rfl
      | succ n ih =>
        rw [List.replicate_succ]
        show ((1 : Int) - 1).toNat + m * valL m (List.replicate n 1) = 0
        rw [ih]
        omega
    have hp : 1 ≤ m ^ i := Nat.pow_pos (by omega)
    have hlo := least_loop 60 (Nat.le_refl _) h (m ^ i - 1) (List.replicate i 1) false k (by rw [List.length_replicate, hFl]) hv (by rw [hval, hFl]; omega) (.inr (by rw [hval]; omega)) (by omega)
    rw [hFl] at hlo ⊢
    exact hlo
  | d + 1, i, k + 1, hi, hk => by
    have ih := least_l0' hz hw h hn (d) (i + 1) k (by omega) (by omega)
    have hwi := hw i (by omega)
    have e1 : rd z (i : Int) = z.getD i 0 := by unfold rd; rw [Int.toNat_natCast]
    have e2 : (z.take (i + 1)).map (fun x => 1 + x) = (z.take i).map (fun x => 1 + x) ++ [wrap64 (1 + wrap64 (z.getD i 0))] := by
      rw [Pr.wrap64_id (n := z.getD i 0) (by omega) (by omega), Pr.wrap64_id (by omega) (by omega), List.take_succ_eq_append_getElem (by omega), List.map_append, List.getD_eq_getElem?_getD, List.getElem?_eq_getElem (by omega)]
      rfl
    rw [e2, List.replicate_succ'] at ih
    rw [valiselaw05_LimitLeast.l0, if_pos (by omega), if_pos (by omega), if_pos (by omega), if_pos (by rw [List.length_map, List.length_take]; omega), if_pos (by rw [List.length_replicate]; omega), e1, w_next (by omega)]
    exact ih
theorem least_j0 (a1 a2 : Int) (l : List Int) (k : Nat) (hk : 1000 ≤ k) : valiselaw05_LimitLeast.j0 k a1 a2 l true = some true := by
  obtain ⟨k, rfl⟩ : ∃ k', k = k' + 1 := ⟨k - 1, by omega⟩
  rw [valiselaw05_LimitLeast.j0, if_pos rfl, lives_at (by omega)]
  rfl
theorem limitLeast_pure (z : List Int) (a1 a2 : Int) (hz : z.length = 5) (hw : ∀ i, i < z.length → 0 ≤ z.getD i 0 ∧ z.getD i 0 ≤ 65535) : valiselaw05_LimitLeast.f 300001 z a1 a2 = some true := by
  have hj := least_j0 a1 a2 z 300001 (by omega)
  unfold valiselaw05_LimitLeast.f
  by_cases h1 : a1 < 2
  · rw [if_pos h1, hj]
  rw [if_neg h1]
  by_cases h2 : a1 > 5
  · rw [if_pos h2, hj]
  rw [if_neg h2]
  by_cases h3 : a2 < 3
  · rw [if_pos h3, hj]
  rw [if_neg h3]
  by_cases h4 : a2 > 4
  · rw [decide_eq_true h4, hj]
  rw [decide_eq_false h4, show (300001 : Nat) = 300000 + 1 from rfl, valiselaw05_LimitLeast.j0, if_neg (by decide)]
  obtain ⟨n, rfl⟩ : ∃ n : Nat, a1 = (n : Int) := ⟨a1.toNat, by omega⟩
  obtain ⟨m, rfl⟩ : ∃ m : Nat, a2 = (m : Int) := ⟨a2.toNat, by omega⟩
  have hFl : ((z.take n).map (fun x => 1 + x)).length = n := by rw [List.length_map, List.length_take]; omega
  have hpos : ∀ i, i < ((z.take n).map (fun x => 1 + x)).length → 1 ≤ ((z.take n).map (fun x => 1 + x)).getD i 0 ∧ ((z.take n).map (fun x => 1 + x)).getD i 0 ≤ 65536 := fun i hi => by
    have h5 := hw i (by omega)
    rw [List.getD_eq_getElem?_getD, List.getElem?_map, List.getElem?_take, if_pos (by omega), List.getElem?_eq_getElem (by omega)]
    rw [List.getD_eq_getElem?_getD, List.getElem?_eq_getElem (by omega)] at h5
    have h5 : 0 ≤ z[i]'(by omega) ∧ z[i]'(by omega) ≤ 65535 := h5
    show 1 ≤ 1 + z[i]'(by omega) ∧ 1 + z[i]'(by omega) ≤ 65536
    omega
  have hsi : (singL ((z.take n).map (fun x => 1 + x)) ((z.take n).map (fun x => 1 + x)).length).length = n := by
    rw [sing_all (fun i hi => by have := hpos i hi; omega) _ (Nat.le_refl _), hFl]
  have hp8 : 2 ^ 3 ≤ 2 ^ m := Nat.pow_le_pow_right (by omega) (by omega)
  obtain ⟨r, hr⟩ := lenF_mk (l := (z.take n).map (fun x => 1 + x)) (m := m) (often_mk (by omega) (by omega) (fun i hi => by have := hpos i hi; omega)) (by omega) (by omega) (by omega)
  have hS : LeastS ((z.take n).map (fun x => 1 + x)) m r := ⟨by omega, by omega, by omega, hpos, hr⟩
  exact least_l0' (by omega) hw hS (by omega) n 0 300000 (by omega) (by omega)
end Go.Proofs.Ytdgpcjhincgijaa.Pg

