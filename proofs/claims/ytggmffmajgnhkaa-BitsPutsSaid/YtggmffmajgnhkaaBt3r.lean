import Derived.Test.YtggmffmajgnhkaaPr0
import Derived.Test.YtggmffmajgnhkaaPr7
import Derived.Test.YtggmffmajgnhkaaPr8
import Derived.Test.YtggmffmajgnhkaaPr9
import Derived.Test.YtggmffmajgnhkaaPr10
import Derived.Test.YtggmffmajgnhkaaPr11
import Derived.Test.YtggmffmajgnhkaaPr13
import Derived.Test.YtggmffmajgnhkaaPr21
import Derived.Test.YtggmffmajgnhkaaPr22
import Derived.Test.YtggmffmajgnhkaaPr24
import Derived.Test.YtggmffmajgnhkaaBt3
namespace Go.Proofs.Ytggmffmajgnhkaa.Pr
open Go.RowKit Go.Proofs.YtggmffmajgnhkaaW.PrintWords Go.Proofs.YtggmffmajgnhkaaW.PrintLast Go.Proofs.YtggmffmajgnhkaaW.PrintMore
set_option linter.unusedVariables false
set_option linter.unusedSimpArgs false
set_option maxRecDepth 100000
theorem right_eq {l : List Int} {n : Int} (hb : Byt l) (hl : l.length ≤ 140737488355328) (h0 : -9223372036854775808 ≤ n) (h1 : n ≤ 9223372036854775807) : valiseref01_Right.f l n = some (okR l n) := by
  unfold valiseref01_Right.f
  by_cases hn : n < 0
  · rw [if_pos hn]
    have : okR l n = false := by unfold okR; simp; omega
    rw [this]
  · rw [if_neg hn]
    obtain ⟨m, rfl⟩ : ∃ m : Nat, n = (m : Int) := ⟨n.toNat, by omega⟩
    rw [tdiv8, tmod8]
    have e1 : wrap64 (((m % 8 : Nat) : Int) + 7) = ((m % 8 + 7 : Nat) : Int) := by rw [wrapid (by omega) (by omega)]; omega
    rw [e1, tdiv8]
    have e2 : wrap64 (wrap64 ((m / 8 : Nat) : Int) + wrap64 (((m % 8 + 7) / 8 : Nat) : Int)) = (((m + 7) / 8 : Nat) : Int) := by
      rw [wrapid (x := ((m / 8 : Nat) : Int)) (by omega) (by omega), wrapid (x := (((m % 8 + 7) / 8 : Nat) : Int)) (by omega) (by omega), wrapid (by omega) (by omega)]; omega
    rw [e2]
    by_cases hlen : l.length = (m + 7) / 8
    · rw [if_pos (by omega)]
      by_cases h8 : m % 8 = 0
      · rw [if_pos (by omega)]
        have : okR l (m : Int) = true := by
          unfold okR
          rw [Int.toNat_natCast, List.getD_eq_getElem?_getD, List.getElem?_eq_none (by omega)]
          simp [hlen]
          exact pow_pos2 _
        rw [this]
      · rw [if_neg (by omega)]
        have e4 : wrap64 ((l.length : Int) - 1) = ((m / 8 : Nat) : Int) := by rw [wrapid (by omega) (by omega)]; omega
        rw [e4, if_pos (by omega), if_pos (by omega), if_pos (by omega), rd_nat, shr8_eq _ _ (by omega)]
        congr 1
        unfold okR
        rw [Int.toNat_natCast, Bool.eq_iff_iff]
        simp only [beq_iff_eq, Bool.and_eq_true, decide_eq_true_eq]
        rw [last_zero hb hlen h8]
        exact ⟨fun h => ⟨⟨by omega, hlen⟩, h⟩, fun h => h.2⟩
    · rw [if_neg (by omega)]
      have : okR l (m : Int) = false := by unfold okR; rw [Int.toNat_natCast]; simp only [Bool.and_eq_false_iff, decide_eq_false_iff_not]; exact .inl (.inr hlen)
      rw [this]
theorem refCheck_eq {l : List Int} {n : Int} (hb : Byt l) (hl : l.length ≤ 140737488355328) (h0 : -9223372036854775808 ≤ n) (h1 : n ≤ 9223372036854775807) : valiseref01_Check.f l n = some (if okR l n = true then 0 else 2) := by
  unfold valiseref01_Check.f
  rw [right_eq hb hl h0 h1]
  simp only [Option.bind_some]
  cases okR l n <;> rfl
theorem refFits_eq (v n m : Int) (hm : m ≤ 64) : valiseref01_fits.f v n m = some (fitB v n m) := fits_eq v n m hm
theorem copy_eq {l : List Int} {n : Int} (hl : l.length < 140737488355328) : valiseref01_Copy.f l n = some (l, n) := by
  unfold valiseref01_Copy.f
  simp only [Option.bind_some, List.length_nil, Nat.zero_add, List.nil_append]
  rw [if_pos hl]
theorem with_eq {l : List Int} {n : Nat} (h : Rgt l n) {b : Int} (hb : b = 0 ∨ b = 1) (hn : n ≤ 1125899906842616) : valiseref01_With.f l (n : Int) b = some (lay l n b, ((n + 1 : Nat) : Int)) := by
  have hl := h.2.1
  unfold valiseref01_With.f
  have hw : wrap64 ((n : Int) + 1) = ((n + 1 : Nat) : Int) := by rw [wrapid (by omega) (by omega)]; omega
  have hb2 : b % 256 = b := by omega
  rw [tmod8, tdiv8, hw, hb2, wrapid (x := ((n / 8 : Nat) : Int)) (by omega) (by omega)]
  unfold lay
  by_cases h8 : n % 8 = 0
  · rw [if_pos (by omega), if_pos h8, if_pos (by omega)]
  · rw [if_neg (by omega), if_neg h8, if_pos (by omega), if_pos (by omega), if_pos (by omega), rd_nat, Int.toNat_natCast, shl8_eq _ _ (by omega)]
    have hx := byt_get h.1 (n / 8)
    have h3 := h.2.2
    generalize l.getD (n / 8) 0 = x at h3 hx ⊢
    have : (x + b * 2 ^ (n % 8) % 256) % 256 = x + b * 2 ^ (n % 8) := by
      rcases pow8 (n % 8) (by omega) with ⟨e, _⟩ | ⟨e, _⟩ | ⟨e, _⟩ | ⟨e, _⟩ | ⟨e, _⟩ | ⟨e, _⟩ | ⟨e, _⟩ | ⟨e, _⟩ <;> rw [e] at h3 ⊢ <;> rcases hb with rfl | rfl <;> omega
    rw [this]
theorem refPutl_eq (v : Int) (hv0 : 0 ≤ v) (hv1 : v ≤ 9223372036854775807) (c : Nat) (hc : c ≤ 64) : ∀ (d k i : Nat) {l : List Int} {n : Nat}, i + d = c → d < k → Rgt l n → n + d ≤ 1125899906842616 →
    valiseref01_Put.l0 k v (c : Int) (i : Int) l (n : Int) = some (layA l n (bitsV v i d), ((n + d : Nat) : Int), 0) := by
  intro d
  induction d with
  | zero =>
    intro k i l n hi hk h hn
    obtain ⟨k, rfl⟩ : ∃ m, k = m + 1 := ⟨k - 1, by omega⟩
    simp only [valiseref01_Put.l0]
    rw [if_neg (by omega)]
    rfl
  | succ d ih =>
    intro k i l n hi hk h hn
    obtain ⟨k, rfl⟩ : ∃ m, k = m + 1 := ⟨k - 1, by omega⟩
    simp only [valiseref01_Put.l0]
    rw [if_pos (by omega), if_pos (by omega), bit_of v i (by omega) hv0 hv1, with_eq h (vb_01 v i) (by omega)]
    simp only [Option.bind_some]
    rw [show wrap64 ((i : Int) + 1) = ((i + 1 : Nat) : Int) by rw [wrapid (by omega) (by omega)]; omega]
    rw [ih k (i + 1) (by omega) (by omega) (lay_rgt h (vb_01 v i)) (by omega), bitsV, layA, show n + 1 + d = n + (d + 1) by omega]
theorem refPut_eq {k : Nat} (hk : 40 ≤ k) {l : List Int} {n v c : Int} (hb : Byt l) (hl : l.length ≤ 140737488355000) (h0 : -9223372036854775808 ≤ n) (h1 : n ≤ 9223372036854775807) (hv : v ≤ 9223372036854775807) : valiseref01_Put.f k l n v c = some (putS l n v c) := by
  obtain ⟨k, rfl⟩ : ∃ m, k = m + 1 := ⟨k - 1, by omega⟩
  unfold valiseref01_Put.f putS
  rw [right_eq hb (by omega) h0 h1]
  simp only [Option.bind_some]
  cases hr : okR l n with
  | false => simp [valiseref01_Put.j0]
  | true =>
    rw [refFits_eq v c 32 (by omega)]
    simp only [Option.bind_some, if_true]
    cases hf : fitB v c 32 with
    | false => simp [valiseref01_Put.j0]
    | true =>
      obtain ⟨f1, f2, f3, f4⟩ := fitB_iff.1 hf
      obtain ⟨r1, r2⟩ := (okR_iff hb).1 hr
      obtain ⟨m, rfl⟩ : ∃ m : Nat, n = (m : Int) := ⟨n.toNat, by omega⟩
      obtain ⟨d, rfl⟩ : ∃ m : Nat, c = (m : Int) := ⟨c.toNat, by omega⟩
      rw [Int.toNat_natCast] at r2
      have hm := r2.2.1
      simp only [valiseref01_Put.j0, Bool.not_true, Bool.false_eq_true, if_false, Bool.and_self, if_true]
      rw [copy_eq (by omega)]
      simp only [Option.bind_some]
      have := refPutl_eq v f3 hv d (by omega) d k 0 (by omega) (by omega) r2 (by omega)
      rw [show (0 : Int) = ((0 : Nat) : Int) from rfl, this]
      simp only [Int.toNat_natCast]
      rw [Int.natCast_add]
      rfl
theorem refBit_eq {l : List Int} (hb : Byt l) (n : Int) (k : Nat) (hk : k / 8 < l.length) (hk2 : k ≤ 9223372036854775807) : valiseref01_Bit.f l n (k : Int) = some (bat l k) := by
  unfold valiseref01_Bit.f
  have hx := byt_get hb (k / 8)
  rw [tdiv8, tmod8, wrapid (x := ((k / 8 : Nat) : Int)) (by omega) (by omega), if_pos (by omega), if_pos (by omega), if_pos (by omega), rd_nat, shr8_eq _ _ (by omega)]
  have hp := pow_pos2 (k % 8)
  have hq : l.getD (k / 8) 0 / 2 ^ (k % 8) ≤ l.getD (k / 8) 0 := Int.ediv_le_self _ hx.1
  have hr : 0 ≤ l.getD (k / 8) 0 / 2 ^ (k % 8) := Int.ediv_nonneg hx.1 (by omega)
  rw [wrapid (by omega) (by omega), and1 _ hr (by omega)]
  rfl
theorem refGetl_eq {l : List Int} {n : Nat} (h : Rgt l n) (hn : n ≤ 1125899906842624) (a : Nat) (c : Nat) (hc : c ≤ 32) (ha : a + c ≤ n) : ∀ (d k i : Nat), i + d = c → d < k →
    valiseref01_Get.l0 k (a : Int) (c : Int) (getV l a i) (i : Int) l (n : Int) = some (getV l a c, 0) := by
  intro d
  induction d with
  | zero =>
    intro k i hi hk
    obtain ⟨k, rfl⟩ : ∃ m, k = m + 1 := ⟨k - 1, by omega⟩
    simp only [valiseref01_Get.l0]
    rw [if_neg (by omega), show i = c by omega]
  | succ d ih =>
    intro k i hi hk
    obtain ⟨k, rfl⟩ : ∃ m, k = m + 1 := ⟨k - 1, by omega⟩
    have hl := h.2.1
    obtain ⟨g0, g1⟩ := getV_range l a i
    obtain ⟨g2, g3⟩ := getV_range l a (i + 1)
    have h40 := pow_le2 (show i + 1 ≤ 40 by omega)
    have h41 := pow_le2 (show i ≤ 40 by omega)
    have e40 : (2 : Int) ^ 40 = 1099511627776 := by decide
    rw [e40] at h40 h41
    have hbi : 0 ≤ bat l (a + i) * 2 ^ i ∧ bat l (a + i) * 2 ^ i ≤ 1099511627776 := by rcases bat_01 l (a + i) with e | e <;> rw [e] <;> omega
    simp only [valiseref01_Get.l0]
    rw [if_pos (by omega), show wrap64 ((a : Int) + (i : Int)) = ((a + i : Nat) : Int) by rw [wrapid (by omega) (by omega)]; omega, refBit_eq h.1 _ _ (by omega) (by omega)]
    simp only [Option.bind_some]
    rw [if_pos (by omega), shl_eq _ _ (by omega), wrapid (x := bat l (a + i) * 2 ^ i) (by omega) (by omega), wrapid (x := getV l a i + bat l (a + i) * 2 ^ i) (by omega) (by omega), show wrap64 ((i : Int) + 1) = ((i + 1 : Nat) : Int) by rw [wrapid (by omega) (by omega)]; omega]
    exact ih k (i + 1) (by omega) (by omega)
theorem refGet_eq {k : Nat} (hk : 40 ≤ k) {l : List Int} {n a c : Int} (hb : Byt l) (hl : l.length ≤ 140737488355328) (h0 : -9223372036854775808 ≤ n) (h1 : n ≤ 9223372036854775807) : valiseref01_Get.f k l n a c = some (getS l n a c) := by
  obtain ⟨k, rfl⟩ : ∃ m, k = m + 1 := ⟨k - 1, by omega⟩
  unfold valiseref01_Get.f getS
  rw [right_eq hb hl h0 h1]
  simp only [Option.bind_some]
  cases hr : okR l n with
  | false => simp [valiseref01_Get.j0]
  | true =>
    simp only [if_true, Bool.true_and]
    by_cases q1 : c < 0
    · simp [valiseref01_Get.j0, q1, show ¬ (0 ≤ c) by omega]
    · by_cases q2 : c > 32
      · simp [valiseref01_Get.j0, q1, q2, show ¬ (c ≤ 32) by omega]
      · by_cases q3 : a < 0
        · simp [valiseref01_Get.j0, q1, q2, q3, show ¬ (0 ≤ a) by omega]
        · by_cases q4 : a > n
          · simp [valiseref01_Get.j0, q1, q2, q3, q4, show ¬ (a ≤ n) by omega]
          · rw [if_neg q1, if_neg q2, if_neg q3]
            have e : decide (a > n) = false := by simpa using q4
            have e2 : (decide (0 ≤ c) && decide (c ≤ 32) && decide (0 ≤ a) && decide (a ≤ n)) = true := by simp only [Bool.and_eq_true, decide_eq_true_eq]; omega
            rw [e, e2]
            simp only [valiseref01_Get.j0, Bool.false_eq_true, if_false, if_true]
            rw [wrapid (by omega) (by omega)]
            by_cases q5 : n - a < c
            · rw [if_pos q5, if_pos q5]
            · rw [if_neg q5, if_neg q5]
              obtain ⟨r1, r2⟩ := (okR_iff hb).1 hr
              obtain ⟨m, rfl⟩ : ∃ m : Nat, n = (m : Int) := ⟨n.toNat, by omega⟩
              obtain ⟨d, rfl⟩ : ∃ m : Nat, c = (m : Int) := ⟨c.toNat, by omega⟩
              obtain ⟨b, rfl⟩ : ∃ m : Nat, a = (m : Int) := ⟨a.toNat, by omega⟩
              rw [Int.toNat_natCast] at r2
              have := r2.2.1
              simp only [Int.toNat_natCast]
              exact refGetl_eq r2 (by omega) b d (by omega) (by omega) d k 0 (by omega) (by omega)
theorem refTurnl_eq (v : Int) (hv0 : 0 ≤ v) (hv1 : v ≤ 9223372036854775807) (c : Nat) (hc : c ≤ 16) : ∀ (d k i : Nat), i + d = c → d < k → valiseref01_Turn.l0 k v (c : Int) (tu v i) (i : Int) = some (tu v c, 0) := by
  intro d
  induction d with
  | zero =>
    intro k i hi hk
    obtain ⟨k, rfl⟩ : ∃ m, k = m + 1 := ⟨k - 1, by omega⟩
    simp only [valiseref01_Turn.l0]
    rw [if_neg (by omega), show i = c by omega]
  | succ d ih =>
    intro k i hi hk
    obtain ⟨k, rfl⟩ : ∃ m, k = m + 1 := ⟨k - 1, by omega⟩
    obtain ⟨t0, t1⟩ := tu_range v i
    have h40 := pow_le2 (show i ≤ 40 by omega)
    have e40 : (2 : Int) ^ 40 = 1099511627776 := by decide
    rw [e40] at h40
    have hb := vb_01 v i
    simp only [valiseref01_Turn.l0]
    rw [if_pos (by omega), if_pos (by omega), bit_of v i (by omega) hv0 hv1, wrapid (x := 2 * tu v i) (by omega) (by omega), wrapid (x := 2 * tu v i + vb v i) (by omega) (by omega), show wrap64 ((i : Int) + 1) = ((i + 1 : Nat) : Int) by rw [wrapid (by omega) (by omega)]; omega]
    exact ih k (i + 1) (by omega) (by omega)
theorem refTurn_eq {k : Nat} (hk : 40 ≤ k) (v n : Int) (hv : v ≤ 9223372036854775807) : valiseref01_Turn.f k v n = some (turnS v n) := by
  unfold valiseref01_Turn.f turnS
  rw [refFits_eq v n 16 (by omega)]
  simp only [Option.bind_some]
  cases hf : fitB v n 16 with
  | false => simp
  | true =>
    obtain ⟨f1, f2, f3, f4⟩ := fitB_iff.1 hf
    obtain ⟨d, rfl⟩ : ∃ m : Nat, n = (m : Int) := ⟨n.toNat, by omega⟩
    simp only [if_true, Int.toNat_natCast]
    have := refTurnl_eq v f3 hv d (by omega) d k 0 (by omega) (by omega)
    simpa [tu] using this
end Go.Proofs.Ytggmffmajgnhkaa.Pr
