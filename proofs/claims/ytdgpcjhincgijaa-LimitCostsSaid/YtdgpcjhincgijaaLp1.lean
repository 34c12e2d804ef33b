-- A text by hand (wip/limit).
import Derived.Test.YtdgpcjhincgijaaPg15
namespace Go.Proofs.Ytdgpcjhincgijaa.Pg
open Go.RowKit Go.Proofs.YtdgpcjhincgijaaW.PrintWords Go.Proofs.YtdgpcjhincgijaaW.PrintLast
set_option linter.unusedVariables false
set_option linter.unusedSimpArgs false
/-! ### Plain: the document's Often, Lengths, Cost; the examples -/
theorem up {α : Type} {g : Nat → Option α} (hm : ∀ k, LeO (g k) (g (k + 1))) {k n : Nat} {r : α} (hk : k ≤ n) (h : g k = some r) : g n = some r := by
  induction n with
  | zero => obtain rfl : k = 0 := by omega
            exact h
  | succ n ih =>
    by_cases e : k = n + 1
    · subst e
      exact h
    · exact hm n r (ih (by omega))
theorem lives_20 : valiselaw05_lives.f 20 = some true := by decide +kernel
theorem lives_at {k : Nat} (hk : 20 ≤ k) : valiselaw05_lives.f k = some true := up (g := valiselaw05_lives.f) valiselaw05_lives.mono hk lives_20
theorem drop_rd (x : List Int) {i : Nat} (h : i < x.length) : x.drop i = rd x (i : Int) :: x.drop (i + 1) := by
  rw [List.drop_eq_getElem_cons h]
  unfold rd
  rw [Int.toNat_natCast, List.getD_eq_getElem?_getD, List.getElem?_eq_getElem h]
  rfl
theorem w_next {i : Nat} (h : i < 1000000) : wrap64 ((i : Int) + 1) = ((i + 1 : Nat) : Int) := by
  rw [Pr.wrap64_id (by omega) (by omega)]
  omega
theorem often_l0 (x : List Int) (hx : x.length ≤ 288) : ∀ (n i k : Nat), i + n = x.length → n < k → valiseref05_Often.l0 k x (i : Int) = some (!((x.drop i).any Pr.badF))
  | n, i, 0, _, hk => by omega
  | 0, i, k + 1, hi, _ => by
    rw [valiseref05_Often.l0, if_neg (by omega), List.drop_eq_nil_of_le (by omega)]
    rfl
  | n + 1, i, k + 1, hi, hk => by
    rw [valiseref05_Often.l0, if_pos (by omega), if_pos (by omega), drop_rd x (by omega), List.any_cons, w_next (by omega)]
    by_cases h1 : rd x (i : Int) < 0
    · rw [if_pos h1]
      unfold Pr.badF
      rw [decide_eq_true h1]
      rfl
    · rw [if_neg h1]
      by_cases h2 : rd x (i : Int) > 4294967295
      · rw [if_pos h2]
        unfold Pr.badF
        rw [decide_eq_true h2, Bool.or_true]
        rfl
      · rw [if_neg h2, often_l0 x hx n (i + 1) k (by omega) (by omega)]
        have : Pr.badF (rd x (i : Int)) = false := by
          unfold Pr.badF
          rw [decide_eq_false h1, decide_eq_false h2]
          rfl
        rw [this, Bool.false_or]
theorem often_eq (x : List Int) {k : Nat} (hk : 400 ≤ k) : valiseref05_Often.f k x = some (Pr.oftenS x) := by
  obtain ⟨k, rfl⟩ : ∃ k', k = k' + 1 := ⟨k - 1, by omega⟩
  unfold valiseref05_Often.f Pr.oftenS
  by_cases h0 : x.length = 0
  · rw [if_pos (by omega), valiseref05_Often.j0, if_pos rfl, decide_eq_false (by omega), Bool.false_and]
  · rw [if_neg (by omega), valiseref05_Often.j0]
    by_cases h1 : x.length > 288
    · rw [if_pos (decide_eq_true (by omega)), decide_eq_false (by omega), Bool.false_and]
    · rw [if_neg (by rw [decide_eq_false (by omega)]; decide), decide_eq_true (by omega), Bool.true_and]
      exact often_l0 x (by omega) x.length 0 k (by omega) (by omega)
def badC (n : Int) : Bool := decide (n < 0) || decide (n > 15)
def lensS (l : List Int) : Bool := decide (1 ≤ l.length ∧ l.length ≤ 288) && !l.any badC
theorem lens_l0 (x : List Int) (hx : x.length ≤ 288) : ∀ (n i k : Nat), i + n = x.length → n < k → valiseref04_Lengths.l0 k x (i : Int) = some (!((x.drop i).any badC))
  | n, i, 0, _, hk => by omega
  | 0, i, k + 1, hi, _ => by
    rw [valiseref04_Lengths.l0, if_neg (by omega), List.drop_eq_nil_of_le (by omega)]
    rfl
  | n + 1, i, k + 1, hi, hk => by
    rw [valiseref04_Lengths.l0, if_pos (by omega), if_pos (by omega), drop_rd x (by omega), List.any_cons, w_next (by omega)]
    by_cases h1 : rd x (i : Int) < 0
    · rw [if_pos h1]
      unfold badC
      rw [decide_eq_true h1]
      rfl
    · rw [if_neg h1]
      by_cases h2 : rd x (i : Int) > 15
      · rw [if_pos h2]
        unfold badC
        rw [decide_eq_true h2, Bool.or_true]
        rfl
      · rw [if_neg h2, lens_l0 x hx n (i + 1) k (by omega) (by omega)]
        have : badC (rd x (i : Int)) = false := by
          unfold badC
          rw [decide_eq_false h1, decide_eq_false h2]
          rfl
        rw [this, Bool.false_or]
theorem lens_eq (x : List Int) {k : Nat} (hk : 400 ≤ k) : valiseref04_Lengths.f k x = some (lensS x) := by
  obtain ⟨k, rfl⟩ : ∃ k', k = k' + 1 := ⟨k - 1, by omega⟩
  unfold valiseref04_Lengths.f lensS
  by_cases h0 : x.length = 0
  · rw [if_pos (by omega), valiseref04_Lengths.j0, if_pos rfl, decide_eq_false (by omega), Bool.false_and]
  · rw [if_neg (by omega), valiseref04_Lengths.j0]
    by_cases h1 : x.length > 288
    · rw [if_pos (decide_eq_true (by omega)), decide_eq_false (by omega), Bool.false_and]
    · rw [if_neg (by rw [decide_eq_false (by omega)]; decide), decide_eq_true (by omega), Bool.true_and]
      exact lens_l0 x (by omega) x.length 0 k (by omega) (by omega)
theorem lensS_iff (l : List Int) : lensS l = true ↔ 1 ≤ l.length ∧ l.length ≤ 288 ∧ ∀ x ∈ l, 0 ≤ x ∧ x ≤ 15 := by
  unfold lensS badC
  rw [Bool.and_eq_true, decide_eq_true_iff, Bool.not_eq_true', List.any_eq_false, and_assoc]
  refine and_congr_right fun _ => and_congr_right fun _ => forall_congr' fun x => forall_congr' fun _ => ?_
  simp
theorem lensS_check (l : List Int) : lensS l = true ↔ Pr.checkS l ≠ 2 := by
  rw [lensS_iff]
  constructor
  · rintro ⟨h1, h2, h3⟩
    have : (Pr.countedS l).2 = true := by
      unfold Pr.countedS
      rw [if_neg (by omega), if_pos]
      rw [List.all_eq_true]
      intro x hx
      unfold Pr.usedL at hx
      obtain ⟨hx, _⟩ := List.mem_filter.1 hx
      obtain ⟨j, hj, rfl⟩ := List.mem_map.1 hx
      have hj := List.mem_range.1 hj
      refine decide_eq_true ?_
      show 0 ≤ l[j]?.getD 0 ∧ l[j]?.getD 0 ≤ 15
      rw [List.getElem?_eq_getElem hj]
      exact h3 _ (List.getElem_mem hj)
    unfold Pr.checkS
    rw [if_neg (by rw [this]; decide)]
    split
    · decide
    · split <;> decide
  · intro h
    obtain ⟨h1, h2, h3⟩ := Pr.checkS_lens h
    refine ⟨h1, h2, fun x hx => ?_⟩
    obtain ⟨j, hj, rfl⟩ := List.getElem_of_mem hx
    have := h3 j hj
    rwa [List.getD_eq_getElem?_getD, List.getElem?_eq_getElem hj] at this
theorem cost_l0 (f l : List Int) (hn : f.length ≤ 288) (hl : f.length = l.length) (hb : ∀ k, k ≤ f.length → 0 ≤ Pr.dotS f l k ∧ Pr.dotS f l k ≤ (k : Int) * 64424509425) (hp : ∀ k : Nat, k < f.length → 0 ≤ f.getD k 0 * l.getD k 0) : ∀ (n i k : Nat), i + n = f.length → n < k → valiseref05_Cost.l0 k f l (Pr.dotS f l i) (i : Int) = some (Pr.dotS f l f.length, 0)
  | n, i, 0, _, hk => by omega
  | 0, i, k + 1, hi, _ => by
    obtain rfl : i = f.length := by omega
    rw [valiseref05_Cost.l0, if_neg (by omega)]
  | n + 1, i, k + 1, hi, hk => by
    rw [valiseref05_Cost.l0, if_pos (by omega), if_pos (by omega), if_pos (by omega), w_next (by omega)]
    have e1 : rd f (i : Int) = f.getD i 0 := by unfold rd; rw [Int.toNat_natCast]
    have e2 : rd l (i : Int) = l.getD i 0 := by unfold rd; rw [Int.toNat_natCast]
    have h1 := hb i (by omega)
    have h2 := hb (i + 1) (by omega)
    have h3 : Pr.dotS f l (i + 1) = Pr.dotS f l i + f.getD i 0 * l.getD i 0 := rfl
    have h4 := hp i (by omega)
    have ih := cost_l0 f l hn hl hb hp n (i + 1) k (by omega) (by omega)
    rw [e1, e2]
    rw [h3] at h2 ih
    generalize f.getD i 0 * l.getD i 0 = z at *
    rw [Pr.wrap64_id (n := z) (by omega) (by omega), Pr.wrap64_id (by omega) (by omega)]
    exact ih
theorem cost_eq (f l : List Int) {k : Nat} (hk : 400 ≤ k) : valiseref05_Cost.f k f l = some (Pr.costS f l) := by
  obtain ⟨k', rfl⟩ : ∃ k', k = k' + 1 := ⟨k - 1, by omega⟩
  unfold valiseref05_Cost.f Pr.costS
  rw [often_eq f hk, lens_eq l hk]
  simp only [Option.bind_some]
  by_cases h1 : Pr.oftenS f = true
  · rw [if_pos h1]
    by_cases h2 : lensS l = true
    · rw [if_pos h2, valiseref05_Cost.j0]
      by_cases h3 : f.length = l.length
      · rw [if_neg (by rw [bne_iff_ne]; omega), if_pos ⟨h1, h3, (lensS_check l).1 h2⟩]
        have hf := Pr.often_at h1
        obtain ⟨h4, h5, _⟩ := (lensS_iff l).1 h2
        have h6 := (Pr.checkS_lens ((lensS_check l).1 h2)).2.2
        rw [← h3] at h6
        exact cost_l0 f l (by omega) h3 (Pr.dotS_bound hf h6) (fun k hk => Int.mul_nonneg (hf k hk).1 (h6 k hk).1) f.length 0 k' (by omega) (by omega)
      · rw [if_pos (by rw [bne_iff_ne]; omega), if_neg (fun h => h3 h.2.1)]
    · rw [if_neg h2, valiseref05_Cost.j0, if_pos rfl, if_neg (fun h => h2 ((lensS_check l).2 h.2.2))]
  · rw [if_neg h1, valiseref05_Cost.j0, if_pos rfl, if_neg (fun h => h1 h.1)]
theorem limitCosts_pure : valiselaw05_LimitCosts.Pure := by
  intro l0 l1 _ h1 _ _ h2 _
  refine ⟨400, ?_⟩
  unfold valiselaw05_LimitCosts.f
  simp only [Option.bind_some, List.nil_append, List.length_nil, Nat.zero_add]
  rw [if_pos (by omega), if_pos (by omega), cost_eq l0 l1 (by omega)]
  unfold limit_Cost.f
  simp only [Option.bind_some]
  simp only [if_true]
  rw [lives_at (by omega)]
  rfl
end Go.Proofs.Ytdgpcjhincgijaa.Pg
