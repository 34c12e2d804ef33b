/- No code begins with another one; of one length codes rise with their symbols; no longer code is ahead of a shorter one. No condition. -/
import Derived.Test.YthcndpdfcippiaaPr0
import Derived.Test.YthcndpdfcippiaaPr1
import Derived.Test.YthcndpdfcippiaaPr16
import Derived.Test.YthcndpdfcippiaaPr27
import Derived.Test.YthcndpdfcippiaaPh1
namespace Go.Proofs.Ythcndpdfcippiaa.Pr
open Go.RowKit Go.Proofs.YthcndpdfcippiaaW.PrintWords Go.Proofs.YthcndpdfcippiaaW.PrintLast Go.Proofs.YthcndpdfcippiaaW.PrintMore
set_option linter.unusedVariables false
set_option linter.unusedSimpArgs false
set_option maxRecDepth 100000
/-! ### No code begins with another one -/
theorem rank_lt (l : List Int) {p q : Nat} (hpq : p < q) (hq : q ≤ l.length) : (l.take p).count (l[p]?.getD 0) + 1 ≤ (l.take q).count (l[p]?.getD 0) := by
  have h1 : (l.take (p + 1)).count (l[p]?.getD 0) = (l.take p).count (l[p]?.getD 0) + 1 := by
    rw [take_succ_getD l (by omega), List.count_append, List.count_singleton, if_pos (beq_iff_eq.mpr rfl)]
  rw [← h1]
  have h2 : l.take (p + 1) = (l.take q).take (p + 1) := by rw [List.take_take, Nat.min_eq_left (by omega)]
  rw [h2]
  exact List.Sublist.count_le _ (List.take_sublist _ _)
theorem code_lt (l : List Int) {p : Nat} (hp : p < l.length) (h0 : l[p]?.getD 0 ≠ 0) : codeN l p + 1 ≤ firstC l (l[p]?.getD 0).toNat + l.count (l[p]?.getD 0) := by
  have := rank_lt l hp (Nat.le_refl _)
  rw [List.take_length] at this
  unfold codeN
  rw [if_neg h0]
  omega
theorem first_grows (l : List Int) {j : Nat} (hj : 1 ≤ j) : ∀ d, 1 ≤ d → (firstC l j + l.count (j : Int)) * 2 ^ d ≤ firstC l (j + d)
  | 0, h => by omega
  | 1, _ => by
    rw [show firstC l (j + 1) = (firstC l j + if j = 0 then 0 else l.count (j : Int)) * 2 from rfl, if_neg (by omega), Nat.pow_one]
    exact Nat.le_refl _
  | d + 2, _ => by
    have ih := first_grows l hj (d + 1) (by omega)
    rw [show firstC l (j + (d + 2)) = (firstC l (j + (d + 1)) + if j + (d + 1) = 0 then 0 else l.count ((j + (d + 1) : Nat) : Int)) * 2 from rfl, if_neg (by omega), Nat.pow_succ, ← Nat.mul_assoc]
    exact Nat.mul_le_mul_right 2 (by omega)
theorem code_ge (l : List Int) {q : Nat} (h0 : l[q]?.getD 0 ≠ 0) : firstC l (l[q]?.getD 0).toNat ≤ codeN l q := by unfold codeN; rw [if_neg h0]; omega
theorem ahead_gt (l : List Int) {p q a b : Nat} (hp : p < l.length) (ep : l[p]?.getD 0 = (a : Int)) (eq : l[q]?.getD 0 = (b : Int)) (ha : 1 ≤ a) (hab : a < b) : codeN l p < codeN l q / 2 ^ (b - a) := by
  have h1 := code_lt l hp (by omega)
  have h2 := code_ge l (q := q) (by omega)
  rw [ep, Int.toNat_natCast] at h1
  rw [eq, Int.toNat_natCast] at h2
  have h3 := first_grows l ha (b - a) (by omega)
  rw [show a + (b - a) = b by omega] at h3
  have h4 : (codeN l p + 1) * 2 ^ (b - a) ≤ codeN l q := Nat.le_trans (Nat.mul_le_mul_right _ h1) (Nat.le_trans h3 h2)
  exact (Nat.le_div_iff_mul_le (Nat.two_pow_pos _)).2 h4
theorem same_lt (l : List Int) {p q : Nat} (hq : q < l.length) (e : l[p]?.getD 0 = l[q]?.getD 0) (h0 : l[p]?.getD 0 ≠ 0) (hpq : p < q) : codeN l p < codeN l q := by
  have := rank_lt l hpq (Nat.le_of_lt hq)
  unfold codeN
  rw [← e, if_neg h0, if_neg h0]
  omega
theorem umod (a : Int) {n : Nat} (h1 : 1 ≤ n) (h2 : n ≤ 288) : ∃ p : Nat, p < n ∧ wrap64 (Int.tmod (IntKind.u64.wrap a) (IntKind.u64.wrap (n : Int))) = (p : Int) := by
  have e1 : IntKind.u64.wrap (n : Int) = (n : Int) := by rw [IntKind.wrap_u64]; omega
  have e2 : 0 ≤ IntKind.u64.wrap a := by rw [IntKind.wrap_u64]; omega
  rw [e1]
  have h3 := Int.tmod_nonneg (n : Int) e2
  have h4 := Int.tmod_lt_of_pos (IntKind.u64.wrap a) (show (0 : Int) < (n : Int) by omega)
  refine ⟨(Int.tmod (IntKind.u64.wrap a) (n : Int)).toNat, by omega, ?_⟩
  rw [wrap64_id (by omega) (by omega)]
  omega
theorem apart_j0 (k : Nat) (l : List Int) (h : OKL l) (p q : Nat) (hp : p < l.length) (hq : q < l.length) (hpq : p ≠ q) (p0 : rd l (p : Int) ≠ 0) (q0 : rd l (q : Int) ≠ 0) (hle : rd l (p : Int) ≤ rd l (q : Int)) :
    valiselaw04_HuffApart.j0 (k + 1) l (codesV l) (p : Int) (q : Int) false = some true := by
  have hm := h.2.2 _ (mem_of_getD hp)
  have hm2 := h.2.2 _ (mem_of_getD hq)
  have hl := codesV_len l
  rw [rdN] at p0 q0 hle
  rw [rdN] at hle
  obtain ⟨a, ea⟩ : ∃ a : Nat, l[p]?.getD 0 = (a : Int) := ⟨(l[p]?.getD 0).toNat, by omega⟩
  obtain ⟨b, eb⟩ : ∃ b : Nat, l[q]?.getD 0 = (b : Int) := ⟨(l[q]?.getD 0).toNat, by omega⟩
  have ra : rd l (p : Int) = (a : Int) := (rdN l p).trans ea
  have rb : rd l (q : Int) = (b : Int) := (rdN l q).trans eb
  have L : valiselaw04_lives.f = some true := rfl
  rw [valiselaw04_HuffApart.j0, if_neg (by decide), if_pos (by omega), if_pos (by omega), if_pos (by omega), if_pos (by omega), if_pos (by omega), ra, rb, wrap64_id (by omega) (by omega), if_pos (by omega), codesV_rd l hp, codesV_rd l hq, L]
  by_cases hab : (a : Int) = (b : Int)
  · rw [if_pos hab, if_pos (by omega)]
    have hs : (codeN l p < codeN l q ↔ p < q) ∧ codeN l p ≠ codeN l q := by
      rcases Nat.lt_or_ge p q with hlt | hge
      · have := same_lt l hq (by rw [ea, eb, hab]) (by omega) hlt
        omega
      · have := same_lt l (p := q) (q := p) hp (by rw [ea, eb, hab]) (by omega) (by omega)
        omega
    have e1 : decide (((codeN l p : Nat) : Int) < ((codeN l q : Nat) : Int)) = decide ((p : Int) < (q : Int)) := by rw [decide_eq_decide]; omega
    rw [e1, if_pos (beq_self_eq_true _), if_neg (by omega)]
    rfl
  · rw [if_neg hab, if_pos (by omega)]
    have hgt := ahead_gt l hp ea eb (by omega) (show a < b by omega)
    have e2 : shr .i64 ((codeN l q : Nat) : Int) ((b : Int) - (a : Int)) = ((codeN l q / 2 ^ (b - a) : Nat) : Int) := by
      have : shr .i64 ((codeN l q : Nat) : Int) ((b : Int) - (a : Int)) = ((codeN l q : Nat) : Int) / 2 ^ min ((b : Int) - (a : Int)).toNat 64 := rfl
      rw [this, show min ((b : Int) - (a : Int)).toNat 64 = b - a by omega]
      push_cast
      rfl
    rw [e2, if_pos (by omega)]
    rfl
theorem apart_true (k : Nat) (l c : List Int) (p q : Int) : valiselaw04_HuffApart.j0 (k + 1) l c p q true = some true := by
  rw [valiselaw04_HuffApart.j0, if_pos rfl]
  rfl
theorem HuffApart.pure (l : List Int) (a1 a2 : Int) : valiselaw04_HuffApart.f 1 l a1 a2 = some true := by
  have L : valiselaw04_lives.f = some true := rfl
  unfold valiselaw04_HuffApart.f huff_Codes.f
  rw [Option.bind_some, codesS_eq]
  by_cases hc : Hu.checkS l = 0 ∨ Hu.checkS l = 12
  · have h := okl_of_check hc
    obtain ⟨p, hp, ep⟩ := umod a1 h.1 h.2.1
    obtain ⟨q, hq, eq⟩ := umod a2 h.1 h.2.1
    have e1 : IntKind.u64.wrap (l.length : Int) ≠ 0 := by rw [IntKind.wrap_u64]; have := h.1; have := h.2.1; omega
    rw [if_pos hc]
    dsimp only
    rw [if_pos rfl, if_pos (by rw [codesV_len]), if_neg e1, ep, eq]
    by_cases hpq : (p : Int) = (q : Int)
    · rw [if_pos hpq, apart_true]
    · rw [if_neg hpq, if_pos (by omega), if_pos (by omega)]
      by_cases p0 : rd l (p : Int) = 0
      · rw [if_pos p0, apart_true]
      · rw [if_neg p0, if_pos (by omega), if_pos (by omega)]
        by_cases q0 : rd l (q : Int) = 0
        · rw [if_pos q0, apart_true]
        · rw [if_neg q0]
          by_cases hg : rd l (p : Int) > rd l (q : Int)
          · rw [decide_eq_true hg, apart_true]
          · rw [decide_eq_false hg]
            exact apart_j0 0 l h p q hp hq (by omega) p0 q0 (by omega)
  · rw [if_neg hc]
    dsimp only
    by_cases h0 : Hu.checkS l = 0
    · omega
    · rw [if_neg h0, if_pos (show ((([] : List Int).length : Nat) : Int) = 0 from rfl), L]
      rfl
end Go.Proofs.Ythcndpdfcippiaa.Pr
