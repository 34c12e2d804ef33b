import Derived.Test.YtggmffmajgnhkaaPr0
import Derived.Test.YtggmffmajgnhkaaPr7
import Derived.Test.YtggmffmajgnhkaaPr8
import Derived.Test.YtggmffmajgnhkaaPr9
import Derived.Test.YtggmffmajgnhkaaPr10
import Derived.Test.YtggmffmajgnhkaaPr13
import Derived.Test.YtggmffmajgnhkaaPr21
import Derived.Test.YtggmffmajgnhkaaBt3
namespace Go.Proofs.Ytggmffmajgnhkaa.Pr
open Go.RowKit Go.Proofs.YtggmffmajgnhkaaW.PrintWords Go.Proofs.YtggmffmajgnhkaaW.PrintLast Go.Proofs.YtggmffmajgnhkaaW.PrintMore
set_option linter.unusedVariables false
set_option linter.unusedSimpArgs false
set_option maxRecDepth 100000
theorem right_eq {l : List Int} {n : Int} (hb : Byt l) (hl : l.length ≤ 140737488355328) (h0 : -9223372036854775808 ≤ n) (h1 : n ≤ 9223372036854775807) : valiseref01_Right.f l n = some (okR l n) := by
  unfold valiseref01_Right.f
  by_cases hn : n < 0
  · rw [if_pos hn]
    have : okR l n = false := by unfold okR; simp; omega
    rw [this]
  · rw [if_neg hn]
    obtain ⟨m, rfl⟩ : ∃ m : Nat, n = (m : Int) := ⟨n.toNat, by omega⟩
    rw [tdiv8, tmod8]
    have e1 : wrap64 (((m % 8 : Nat) : Int) + 7) = ((m % 8 + 7 : Nat) : Int) := by rw [wrapid (by omega) (by omega)]; omega
    rw [e1, tdiv8]
    have e2 : wrap64 (wrap64 ((m / 8 : Nat) : Int) + wrap64 (((m % 8 + 7) / 8 : Nat) : Int)) = (((m + 7) / 8 : Nat) : Int) := by
      rw [wrapid (x := ((m / 8 : Nat) : Int)) (by omega) (by omega), wrapid (x := (((m % 8 + 7) / 8 : Nat) : Int)) (by omega) (by omega), wrapid (by omega) (by omega)]; omega
    rw [e2]
    by_cases hlen : l.length = (m + 7) / 8
    · rw [if_pos (by omega)]
      by_cases h8 : m % 8 = 0
      · rw [if_pos (by omega)]
        have : okR l (m : Int) = true := by
          unfold okR
          rw [Int.toNat_natCast, List.getD_eq_getElem?_getD, List.getElem?_eq_none (by omega)]
          simp [hlen]
          exact pow_pos2 _
        rw [this]
      · rw [if_neg (by omega)]
        have e4 : wrap64 ((l.length : Int) - 1) = ((m / 8 : Nat) : Int) := by rw [wrapid (by omega) (by omega)]; omega
        rw [e4, if_pos (by omega), if_pos (by omega), if_pos (by omega), rd_nat, shr8_eq _ _ (by omega)]
        congr 1
        unfold okR
        rw [Int.toNat_natCast, Bool.eq_iff_iff]
        simp only [beq_iff_eq, Bool.and_eq_true, decide_eq_true_eq]
        rw [last_zero hb hlen h8]
        exact ⟨fun h => ⟨⟨by omega, hlen⟩, h⟩, fun h => h.2⟩
    · rw [if_neg (by omega)]
      have : okR l (m : Int) = false := by unfold okR; rw [Int.toNat_natCast]; simp only [Bool.and_eq_false_iff, decide_eq_false_iff_not]; exact .inl (.inr hlen)
      rw [this]
theorem refCheck_eq {l : List Int} {n : Int} (hb : Byt l) (hl : l.length ≤ 140737488355328) (h0 : -9223372036854775808 ≤ n) (h1 : n ≤ 9223372036854775807) : valiseref01_Check.f l n = some (if okR l n = true then 0 else 2) := by
  unfold valiseref01_Check.f
  rw [right_eq hb hl h0 h1]
  simp only [Option.bind_some]
  cases okR l n <;> rfl
theorem refFits_eq (v n m : Int) (hm : m ≤ 64) : valiseref01_fits.f v n m = some (fitB v n m) := fits_eq v n m hm
theorem copy_eq {l : List Int} {n : Int} (hl : l.length < 140737488355328) : valiseref01_Copy.f l n = some (l, n) := by
  unfold valiseref01_Copy.f
  simp only [Option.bind_some, List.length_nil, Nat.zero_add, List.nil_append]
  rw [if_pos hl]
theorem with_eq {l : List Int} {n : Nat} (h : Rgt l n) {b : Int} (hb : b = 0 ∨ b = 1) (hn : n ≤ 1125899906842616) : valiseref01_With.f l (n : Int) b = some (lay l n b, ((n + 1 : Nat) : Int)) := by
  have hl := h.2.1
  unfold valiseref01_With.f
  have hw : wrap64 ((n : Int) + 1) = ((n + 1 : Nat) : Int) := by rw [wrapid (by omega) (by omega)]; omega
  have hb2 : b % 256 = b := by omega
  rw [tmod8, tdiv8, hw, hb2, wrapid (x := ((n / 8 : Nat) : Int)) (by omega) (by omega)]
  unfold lay
  by_cases h8 : n % 8 = 0
  · rw [if_pos (by omega), if_pos h8, if_pos (by omega)]
  · rw [if_neg (by omega), if_neg h8, if_pos (by omega), if_pos (by omega), if_pos (by omega), rd_nat, Int.toNat_natCast, shl8_eq _ _ (by omega)]
    have hx := byt_get h.1 (n / 8)
    have h3 := h.2.2
    generalize l.getD (n / 8) 0 = x at h3 hx ⊢
    have : (x + b * 2 ^ (n % 8) % 256) % 256 = x + b * 2 ^ (n % 8) := by
      rcases pow8 (n % 8) (by omega) with ⟨e, _⟩ | ⟨e, _⟩ | ⟨e, _⟩ | ⟨e, _⟩ | ⟨e, _⟩ | ⟨e, _⟩ | ⟨e, _⟩ | ⟨e, _⟩ <;> rw [e] at h3 ⊢ <;> rcases hb with rfl | rfl <;> omega
    rw [this]
theorem refBit_eq {l : List Int} (hb : Byt l) (n : Int) (k : Nat) (hk : k / 8 < l.length) (hk2 : k ≤ 9223372036854775807) : valiseref01_Bit.f l n (k : Int) = some (bat l k) := by
  unfold valiseref01_Bit.f
  have hx := byt_get hb (k / 8)
  rw [tdiv8, tmod8, wrapid (x := ((k / 8 : Nat) : Int)) (by omega) (by omega), if_pos (by omega), if_pos (by omega), if_pos (by omega), rd_nat, shr8_eq _ _ (by omega)]
  have hp := pow_pos2 (k % 8)
  have hq : l.getD (k / 8) 0 / 2 ^ (k % 8) ≤ l.getD (k / 8) 0 := Int.ediv_le_self _ hx.1
  have hr : 0 ≤ l.getD (k / 8) 0 / 2 ^ (k % 8) := Int.ediv_nonneg hx.1 (by omega)
  rw [wrapid (by omega) (by omega), and1 _ hr (by omega)]
  rfl
end Go.Proofs.Ytggmffmajgnhkaa.Pr
