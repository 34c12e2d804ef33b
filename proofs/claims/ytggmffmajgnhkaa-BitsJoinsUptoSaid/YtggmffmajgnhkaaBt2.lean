import Derived.Test.YtggmffmajgnhkaaPr0
import Derived.Test.YtggmffmajgnhkaaPr3
import Derived.Test.YtggmffmajgnhkaaPr4
import Derived.Test.YtggmffmajgnhkaaPr5
import Derived.Test.YtggmffmajgnhkaaPr6
import Derived.Test.YtggmffmajgnhkaaBt1
namespace Go.Proofs.Ytggmffmajgnhkaa.Pr
open Go.RowKit Go.Proofs.YtggmffmajgnhkaaW.PrintWords Go.Proofs.YtggmffmajgnhkaaW.PrintLast Go.Proofs.YtggmffmajgnhkaaW.PrintMore
set_option linter.unusedVariables false
set_option linter.unusedSimpArgs false
set_option maxRecDepth 100000
/-! ### What the functions of layer 1 compute -/
def okR (l : List Int) (n : Int) : Bool := decide (0 ≤ n) && decide (l.length = (n.toNat + 7) / 8) && decide (l.getD (n.toNat / 8) 0 < 2 ^ (n.toNat % 8))
theorem okR_iff {l : List Int} {n : Int} (hb : Byt l) : okR l n = true ↔ 0 ≤ n ∧ Rgt l n.toNat := by
  unfold okR Rgt
  simp only [Bool.and_eq_true, decide_eq_true_eq]
  exact ⟨fun h => ⟨h.1.1, hb, h.1.2, h.2⟩, fun h => ⟨⟨h.1, h.2.2.1⟩, h.2.2.2⟩⟩
theorem okR_nat {l : List Int} {n : Nat} (h : Rgt l n) : okR l (n : Int) = true := (okR_iff h.1).2 ⟨by omega, by rw [Int.toNat_natCast]; exact h⟩
/-- The last byte behind the row's bits. -/
theorem last_zero {l : List Int} {n : Nat} (hb : Byt l) (hl : l.length = (n + 7) / 8) (h8 : n % 8 ≠ 0) : (l.getD (n / 8) 0 / 2 ^ (n % 8) = 0) ↔ l.getD (n / 8) 0 < 2 ^ (n % 8) :=
  ⟨lt_of_div_zero, fun h => div_small (byt_get hb _).1 h⟩
theorem check_eq {k : Nat} (hk : 1 ≤ k) {l : List Int} {n : Int} (hb : Byt l) (hl : l.length ≤ 140737488355328) (h0 : -9223372036854775808 ≤ n) (h1 : n ≤ 9223372036854775807) : bits_Check.f k l n = some (if okR l n = true then 0 else 2) := by
  obtain ⟨k, rfl⟩ : ∃ m, k = m + 1 := ⟨k - 1, by omega⟩
  unfold bits_Check.f
  by_cases hn : n < 0
  · rw [if_pos hn]
    have : okR l n = false := by unfold okR; simp; omega
    simp [bits_Check.j0, this]
  · rw [if_neg hn, and7 n (by omega) h1]
    obtain ⟨m, rfl⟩ : ∃ m : Nat, n = (m : Int) := ⟨n.toNat, by omega⟩
    have e1 : wrap64 ((m : Int) % 8 + 7) = (m : Int) % 8 + 7 := wrapid (by omega) (by omega)
    have e2 : wrap64 ((m : Int) / 8 + ((m : Int) % 8 + 7) / 8) = ((m + 7) / 8 : Nat) := by rw [wrapid (by omega) (by omega)]; omega
    rw [e1, e2]
    by_cases hlen : l.length = (m + 7) / 8
    · have e3 : (((l.length : Nat) : Int) != (((m + 7) / 8 : Nat) : Int)) = false := by rw [bne_eq_false_iff_eq]; omega
      rw [e3]
      simp only [bits_Check.j0, Bool.false_eq_true, if_false]
      rw [and7 _ (by omega) h1]
      by_cases h8 : (m : Int) % 8 = 0
      · rw [if_pos h8]
        have : okR l (m : Int) = true := by
          unfold okR
          rw [Int.toNat_natCast, List.getD_eq_getElem?_getD, List.getElem?_eq_none (by omega)]
          simp [hlen]
          exact pow_pos2 _
        rw [this]; rfl
      · rw [if_neg h8]
        have e4 : wrap64 ((l.length : Int) - 1) = ((m / 8 : Nat) : Int) := by rw [wrapid (by omega) (by omega)]; omega
        rw [e4, if_pos (by omega), if_pos (by omega), if_pos (by omega), rd_nat, show (m : Int) % 8 = ((m % 8 : Nat) : Int) by omega, shr8_eq _ _ (by omega)]
        by_cases hz : l.getD (m / 8) 0 < 2 ^ (m % 8)
        · rw [if_pos ((last_zero hb hlen (by omega)).2 hz)]
          have : okR l (m : Int) = true := by unfold okR; rw [Int.toNat_natCast]; simp only [Bool.and_eq_true, decide_eq_true_eq]; exact ⟨⟨by omega, hlen⟩, hz⟩
          rw [this]; rfl
        · rw [if_neg (fun h => hz ((last_zero hb hlen (by omega)).1 h))]
          have : okR l (m : Int) = false := by unfold okR; rw [Int.toNat_natCast]; simp only [Bool.and_eq_false_iff, decide_eq_false_iff_not]; exact .inr hz
          rw [this]; rfl
    · have e3 : (((l.length : Nat) : Int) != (((m + 7) / 8 : Nat) : Int)) = true := by rw [bne_iff_ne]; omega
      rw [e3]
      have : okR l (m : Int) = false := by unfold okR; rw [Int.toNat_natCast]; simp only [Bool.and_eq_false_iff, decide_eq_false_iff_not]; exact .inl (.inr hlen)
      rw [this]
      simp [bits_Check.j0]
def fitB (v n m : Int) : Bool := decide (0 ≤ n) && decide (n ≤ m) && decide (0 ≤ v) && decide (v < 2 ^ n.toNat)
theorem fitB_iff {v n m : Int} : fitB v n m = true ↔ 0 ≤ n ∧ n ≤ m ∧ 0 ≤ v ∧ v < 2 ^ n.toNat := by unfold fitB; simp [and_assoc]
theorem fits_eq (v n m : Int) (hm : m ≤ 64) : bits_fits.f v n m = some (fitB v n m) := by
  unfold bits_fits.f fitB
  by_cases h1 : n ≥ 0
  · by_cases h2 : n ≤ m
    · by_cases h3 : v ≥ 0
      · obtain ⟨c, rfl⟩ : ∃ c : Nat, n = (c : Int) := ⟨n.toNat, by omega⟩
        rw [if_pos h1, if_pos h2, if_pos h3, if_pos h1, shr_eq v c (by omega), Int.toNat_natCast]
        congr 1
        have : (v / 2 ^ c == 0) = decide (v < 2 ^ c) := by
          rw [Bool.eq_iff_iff]; simp only [beq_iff_eq, decide_eq_true_eq]
          exact ⟨lt_of_div_zero, fun h => div_small h3 h⟩
        rw [this]
        simp [h1, h2, h3]
      · rw [if_pos h1, if_pos h2, if_neg h3]; simp [h3]
    · rw [if_pos h1, if_neg h2]; simp [h2]
  · rw [if_neg h1]; simp [h1]
/-- A bit as the program lays it. -/
theorem put1_eq {l : List Int} {n : Nat} (h : Rgt l n) {b : Int} (hb : b = 0 ∨ b = 1) (hn : n ≤ 1125899906842616) : put1 l (n : Int) b = some (lay l n b, ((n + 1 : Nat) : Int)) := by
  have hl := h.2.1
  have a7 : Go.bits .and .i64 (n : Int) 7 = ((n % 8 : Nat) : Int) := by rw [and7 _ (by omega) (by omega)]; omega
  have e8 : (n : Int) / 8 = ((n / 8 : Nat) : Int) := by omega
  have hlay := lay_getD h b (n / 8)
  unfold put1
  rw [a7, e8, wrapid (by omega) (by omega)]
  have hx := byt_get h.1 (n / 8)
  have h3 := h.2.2
  have hs : shl .i64 b ((n % 8 : Nat) : Int) = b * 2 ^ (n % 8) ∧ 0 ≤ b * 2 ^ (n % 8) ∧ b * 2 ^ (n % 8) < 256 := by
    rw [shl_eq b (n % 8) (by omega)]
    rcases pow8 (n % 8) (by omega) with ⟨e, _⟩ | ⟨e, _⟩ | ⟨e, _⟩ | ⟨e, _⟩ | ⟨e, _⟩ | ⟨e, _⟩ | ⟨e, _⟩ | ⟨e, _⟩ <;> rw [e] <;> rcases hb with rfl | rfl <;> exact ⟨wrapid (by omega) (by omega), by omega, by omega⟩
  have hor : ∀ x : Int, 0 ≤ x → x < 2 ^ (n % 8) → Go.bits .or .u8 x (b * 2 ^ (n % 8)) = x + b * 2 ^ (n % 8) := by
    intro x hx0 hx1
    obtain ⟨c, rfl⟩ : ∃ c : Nat, x = (c : Int) := ⟨x.toNat, by omega⟩
    obtain ⟨d, rfl⟩ : ∃ d : Nat, b = (d : Int) := ⟨b.toNat, by omega⟩
    have hp : ((2 ^ (n % 8) : Nat) : Int) = 2 ^ (n % 8) := by simp
    have hc : c < 2 ^ (n % 8) := by omega
    have hlt : 2 ^ (n % 8) ≤ 128 := by
      have := Nat.pow_le_pow_right (n := 2) (by omega) (show n % 8 ≤ 7 by omega)
      simpa using this
    have hd : d * 2 ^ (n % 8) < 256 := by
      have h2 := hs.2.2
      rw [← hp] at h2
      have h4 : ((d * 2 ^ (n % 8) : Nat) : Int) < 256 := by rw [Int.natCast_mul]; exact h2
      omega
    have e1 : (d : Int) * 2 ^ (n % 8) = ((d * 2 ^ (n % 8) : Nat) : Int) := by rw [Int.natCast_mul, hp]
    rw [e1, u8_or_nat c _ (by omega) hd, orAdd c (n % 8) d hc (by omega)]
    omega
  by_cases h8 : n % 8 = 0
  · rw [if_pos (by omega), if_pos (by omega)]
    simp only [Option.bind_some]
    rw [if_pos (by omega), if_pos (by rw [List.length_append, List.length_cons, List.length_nil]; omega), if_pos (by omega), hs.1, Int.emod_eq_of_lt hs.2.1 hs.2.2, rd_nat, Int.toNat_natCast]
    have hz : (l ++ [0]).getD (n / 8) 0 = 0 := by rw [getD_snoc, if_pos (by omega)]
    rw [hz, hor 0 (by omega) (pow_pos2 _)]
    unfold lay
    rw [if_pos h8, show n / 8 = l.length by omega, h8, List.set_append_right _ _ (by omega)]
    simp
  · rw [if_neg (by omega)]
    simp only [Option.bind_some]
    rw [if_pos (by omega), if_pos (by omega), if_pos (by omega), hs.1, Int.emod_eq_of_lt hs.2.1 hs.2.2, rd_nat, Int.toNat_natCast, hor _ hx.1 h3]
    unfold lay
    rw [if_neg h8]
    rfl
theorem putl_eq (v : Int) (hv0 : 0 ≤ v) (hv1 : v ≤ 9223372036854775807) (c : Nat) (hc : c ≤ 64) : ∀ (d k i : Nat) {l : List Int} {n : Nat}, i + d = c → d < k → Rgt l n → n + d ≤ 1125899906842616 →
    bits_Put.l0 k l (n : Int) v (c : Int) (i : Int) = some (layA l n (bitsV v i d), ((n + d : Nat) : Int)) := by
  intro d
  induction d with
  | zero =>
    intro k i l n hi hk h hn
    obtain ⟨k, rfl⟩ : ∃ m, k = m + 1 := ⟨k - 1, by omega⟩
    simp only [bits_Put.l0]
    rw [if_neg (by omega)]
    rfl
  | succ d ih =>
    intro k i l n hi hk h hn
    obtain ⟨k, rfl⟩ : ∃ m, k = m + 1 := ⟨k - 1, by omega⟩
    simp only [bits_Put.l0]
    rw [if_pos (by omega), if_pos (by omega), bit_of v i (by omega) hv0 hv1, put1_eq h (vb_01 v i) (by omega)]
    simp only [Option.bind_some]
    rw [show wrap64 ((i : Int) + 1) = ((i + 1 : Nat) : Int) by rw [wrapid (by omega) (by omega)]; omega]
    rw [ih k (i + 1) (by omega) (by omega) (lay_rgt h (vb_01 v i)) (by omega), bitsV, layA, show n + 1 + d = n + (d + 1) by omega]
def putS (l : List Int) (n v c : Int) : List Int × Int × Int := if (okR l n && fitB v c 32) = true then (layA l n.toNat (bitsV v 0 c.toNat), n + c, 0) else ([], 0, 2)
theorem put_eq {k : Nat} (hk : 40 ≤ k) {l : List Int} {n v c : Int} (hb : Byt l) (hl : l.length ≤ 140737488355000) (h0 : -9223372036854775808 ≤ n) (h1 : n ≤ 9223372036854775807) (hv : v ≤ 9223372036854775807) : bits_Put.f k l n v c = some (putS l n v c) := by
  unfold bits_Put.f putS
  rw [check_eq (by omega) hb (by omega) h0 h1]
  simp only [Option.bind_some]
  cases hr : okR l n with
  | false => simp
  | true =>
    rw [fits_eq v c 32 (by omega)]
    simp only [Option.bind_some, if_true]
    cases hf : fitB v c 32 with
    | false => simp
    | true =>
      obtain ⟨f1, f2, f3, f4⟩ := fitB_iff.1 hf
      obtain ⟨r1, r2⟩ := (okR_iff hb).1 hr
      obtain ⟨m, rfl⟩ : ∃ m : Nat, n = (m : Int) := ⟨n.toNat, by omega⟩
      obtain ⟨d, rfl⟩ : ∃ m : Nat, c = (m : Int) := ⟨c.toNat, by omega⟩
      rw [Int.toNat_natCast] at r2
      have hm := r2.2.1
      simp only [if_true, slices_Clone_byte_byte.f, Bool.and_self]
      rw [if_pos (show l.length < 140737488355328 by omega)]
      simp only [Option.bind_some]
      have := putl_eq v f3 hv d (by omega) d k 0 (by omega) (by omega) r2 (by omega)
      rw [show (0 : Int) = ((0 : Nat) : Int) from rfl, this]
      simp only [Option.bind_some, Int.toNat_natCast]
      rw [Int.natCast_add]
end Go.Proofs.Ytggmffmajgnhkaa.Pr
