import Derived.Test.YtggmffmajgnhkaaPr0
import Derived.Test.YtggmffmajgnhkaaPr16
import Derived.Test.YtggmffmajgnhkaaPr17
import Derived.Test.YtggmffmajgnhkaaPr18
import Derived.Test.YtggmffmajgnhkaaBt2
namespace Go.Proofs.Ytggmffmajgnhkaa.Pr
open Go.RowKit Go.Proofs.YtggmffmajgnhkaaW.PrintWords Go.Proofs.YtggmffmajgnhkaaW.PrintLast Go.Proofs.YtggmffmajgnhkaaW.PrintMore
set_option linter.unusedVariables false
set_option linter.unusedSimpArgs false
set_option maxRecDepth 100000
/-! ### The document's functions of layer 1 -/
theorem tdivN (a b : Nat) : Int.tdiv (a : Int) (b : Int) = ((a / b : Nat) : Int) := by rw [Int.tdiv_eq_ediv_of_nonneg (by omega)]; omega
theorem tmodN (a b : Nat) : Int.tmod (a : Int) (b : Int) = ((a % b : Nat) : Int) := by rw [Int.tmod_eq_emod_of_nonneg (by omega)]; omega
theorem tdiv8 (a : Nat) : Int.tdiv (a : Int) 8 = ((a / 8 : Nat) : Int) := tdivN a 8
theorem tmod8 (a : Nat) : Int.tmod (a : Int) 8 = ((a % 8 : Nat) : Int) := tmodN a 8
theorem bit_eq {l : List Int} (hb : Byt l) (n : Int) (k : Nat) (hk : k / 8 < l.length) (hk2 : k ≤ 9223372036854775807) : bits_bit.f l n (k : Int) = some (bat l k) := by
  unfold bits_bit.f
  have hx := byt_get hb (k / 8)
  rw [and7 _ (by omega) (by omega), show (k : Int) / 8 = ((k / 8 : Nat) : Int) by omega, show (k : Int) % 8 = ((k % 8 : Nat) : Int) by omega, if_pos (by omega), if_pos (by omega), if_pos (by omega), rd_nat, wrapid (by omega) (by omega), bit_of _ _ (by omega) hx.1 (by omega)]
  rfl
/-- The number of c bits from a on. -/
def getV (l : List Int) (a : Nat) : Nat → Int
  | 0 => 0
  | c + 1 => getV l a c + bat l (a + c) * 2 ^ c
theorem getV_range (l : List Int) (a c : Nat) : 0 ≤ getV l a c ∧ getV l a c < 2 ^ c := by
  induction c with
  | zero => simp [getV]
  | succ c ih =>
    rw [getV, Int.pow_succ]
    rcases bat_01 l (a + c) with e | e <;> rw [e] <;> omega
theorem orI64 {x : Int} {i : Nat} {b : Int} (hi : i ≤ 40) (hx0 : 0 ≤ x) (hx : x < 2 ^ i) (hb : b = 0 ∨ b = 1) : Go.bits .or .i64 x (shl .i64 b (i : Int)) = x + b * 2 ^ i := by
  have h40 := pow_le2 hi
  have e40 : (2 : Int) ^ 40 = 1099511627776 := by decide
  rw [e40] at h40
  have hsh : 0 ≤ b * 2 ^ i ∧ b * 2 ^ i ≤ 1099511627776 := by rcases hb with rfl | rfl <;> omega
  rw [shl_eq b i (by omega), wrapid (by omega) (by omega)]
  obtain ⟨c, rfl⟩ : ∃ c : Nat, x = (c : Int) := ⟨x.toNat, by omega⟩
  obtain ⟨d, rfl⟩ : ∃ d : Nat, b = (d : Int) := ⟨b.toNat, by omega⟩
  have hp : ((2 ^ i : Nat) : Int) = 2 ^ i := by simp
  have e1 : (d : Int) * 2 ^ i = ((d * 2 ^ i : Nat) : Int) := by rw [Int.natCast_mul, hp]
  rw [e1] at hsh ⊢
  rw [i64orN c _ (by omega) (by omega), orAdd c i d (by omega) (by omega)]
  omega
theorem getl_eq {l : List Int} {n : Nat} (h : Rgt l n) (hn : n ≤ 1125899906842624) (a : Nat) (c : Nat) (hc : c ≤ 32) (ha : a + c ≤ n) : ∀ (d k i : Nat), i + d = c → d < k →
    bits_Get.l0 k (a : Int) (getV l a i) (c : Int) (i : Int) l (n : Int) = some (getV l a c, 0) := by
  intro d
  induction d with
  | zero =>
    intro k i hi hk
    obtain ⟨k, rfl⟩ : ∃ m, k = m + 1 := ⟨k - 1, by omega⟩
    simp only [bits_Get.l0]
    rw [if_neg (by omega), show i = c by omega]
  | succ d ih =>
    intro k i hi hk
    obtain ⟨k, rfl⟩ : ∃ m, k = m + 1 := ⟨k - 1, by omega⟩
    have hl := h.2.1
    obtain ⟨g0, g1⟩ := getV_range l a i
    simp only [bits_Get.l0]
    rw [if_pos (by omega), show wrap64 ((a : Int) + (i : Int)) = ((a + i : Nat) : Int) by rw [wrapid (by omega) (by omega)]; omega, bit_eq h.1 _ _ (by omega) (by omega)]
    simp only [Option.bind_some]
    rw [if_pos (by omega), orI64 (by omega) g0 g1 (bat_01 l _), show wrap64 ((i : Int) + 1) = ((i + 1 : Nat) : Int) by rw [wrapid (by omega) (by omega)]; omega]
    exact ih k (i + 1) (by omega) (by omega)
def getS (l : List Int) (n a c : Int) : Int × Int :=
  if (okR l n && decide (0 ≤ c) && decide (c ≤ 32) && decide (0 ≤ a) && decide (a ≤ n)) = true then (if n - a < c then (0, 4) else (getV l a.toNat c.toNat, 0)) else (0, 2)
theorem get_eq {k : Nat} (hk : 40 ≤ k) {l : List Int} {n a c : Int} (hb : Byt l) (hl : l.length ≤ 140737488355328) (h0 : -9223372036854775808 ≤ n) (h1 : n ≤ 9223372036854775807) : bits_Get.f k l n a c = some (getS l n a c) := by
  obtain ⟨k, rfl⟩ : ∃ m, k = m + 1 := ⟨k - 1, by omega⟩
  unfold bits_Get.f getS
  rw [check_eq (by omega) hb hl h0 h1]
  simp only [Option.bind_some]
  cases hr : okR l n with
  | false => simp [bits_Get.j0]
  | true =>
    simp only [if_true, Bool.true_and]
    by_cases q1 : c < 0
    · simp [bits_Get.j0, q1, show ¬ (0 ≤ c) by omega]
    · by_cases q2 : c > 32
      · simp [bits_Get.j0, q1, q2, show ¬ (c ≤ 32) by omega]
      · by_cases q3 : a < 0
        · simp [bits_Get.j0, q1, q2, q3, show ¬ (0 ≤ a) by omega]
        · by_cases q4 : a > n
          · simp [bits_Get.j0, q1, q2, q3, q4, show ¬ (a ≤ n) by omega]
          · rw [if_neg q1, if_neg q2, if_neg q3]
            have e : decide (a > n) = false := by simpa using q4
            have e2 : (decide (0 ≤ c) && decide (c ≤ 32) && decide (0 ≤ a) && decide (a ≤ n)) = true := by simp only [Bool.and_eq_true, decide_eq_true_eq]; omega
            rw [e, e2]
            simp only [bits_Get.j0, Bool.false_eq_true, if_false, if_true]
            rw [wrapid (by omega) (by omega)]
            by_cases q5 : n - a < c
            · rw [if_pos q5, if_pos q5]
            · rw [if_neg q5, if_neg q5]
              obtain ⟨r1, r2⟩ := (okR_iff hb).1 hr
              obtain ⟨m, rfl⟩ : ∃ m : Nat, n = (m : Int) := ⟨n.toNat, by omega⟩
              obtain ⟨d, rfl⟩ : ∃ m : Nat, c = (m : Int) := ⟨c.toNat, by omega⟩
              obtain ⟨b, rfl⟩ : ∃ m : Nat, a = (m : Int) := ⟨a.toNat, by omega⟩
              rw [Int.toNat_natCast] at r2
              have := r2.2.1
              simp only [Int.toNat_natCast]
              exact getl_eq r2 (by omega) b d (by omega) (by omega) d k 0 (by omega) (by omega)
/-- The first j bits of a number, turned. -/
def tu (v : Int) : Nat → Int
  | 0 => 0
  | j + 1 => 2 * tu v j + vb v j
theorem tu_range (v : Int) (j : Nat) : 0 ≤ tu v j ∧ tu v j < 2 ^ j := by
  induction j with
  | zero => simp [tu]
  | succ j ih =>
    rw [tu, Int.pow_succ]
    rcases vb_01 v j with e | e <;> rw [e] <;> omega
theorem orTwo (x b : Int) (h0 : 0 ≤ x) (h1 : x ≤ 1099511627776) (hb : b = 0 ∨ b = 1) : Go.bits .or .i64 (wrap64 (x * 2)) b = 2 * x + b := by
  rw [wrapid (by omega) (by omega)]
  obtain ⟨c, rfl⟩ : ∃ c : Nat, x = (c : Int) := ⟨x.toNat, by omega⟩
  obtain ⟨d, rfl⟩ : ∃ d : Nat, b = (d : Int) := ⟨b.toNat, by omega⟩
  have h := Nat.two_pow_add_eq_or_of_lt (i := 1) (b := d) (by omega) c
  rw [show (c : Int) * 2 = ((2 ^ 1 * c : Nat) : Int) by omega, i64orN _ d (by omega) (by omega), ← h]
  omega
theorem turnl_eq (v : Int) (hv0 : 0 ≤ v) (hv1 : v ≤ 9223372036854775807) (c : Nat) (hc : c ≤ 16) : ∀ (d k i : Nat), i + d = c → d < k → bits_Turn.l0 k (v / 2 ^ i) (tu v i) (c : Int) (i : Int) = some (tu v c, 0) := by
  intro d
  induction d with
  | zero =>
    intro k i hi hk
    obtain ⟨k, rfl⟩ : ∃ m, k = m + 1 := ⟨k - 1, by omega⟩
    simp only [bits_Turn.l0]
    rw [if_neg (by omega), show i = c by omega]
  | succ d ih =>
    intro k i hi hk
    obtain ⟨k, rfl⟩ : ∃ m, k = m + 1 := ⟨k - 1, by omega⟩
    obtain ⟨t0, t1⟩ := tu_range v i
    have h40 := pow_le2 (show i ≤ 40 by omega)
    have e40 : (2 : Int) ^ 40 = 1099511627776 := by decide
    rw [e40] at h40
    have hq : v / 2 ^ i ≤ v := Int.ediv_le_self _ hv0
    have hr : 0 ≤ v / 2 ^ i := Int.ediv_nonneg hv0 (by have := pow_pos2 i; omega)
    simp only [bits_Turn.l0]
    rw [if_pos (by omega), and1 _ hr (by omega), show v / 2 ^ i % 2 = vb v i from rfl, orTwo _ _ t0 (by omega) (vb_01 v i), ← div_pow_succ, show wrap64 ((i : Int) + 1) = ((i + 1 : Nat) : Int) by rw [wrapid (by omega) (by omega)]; omega]
    exact ih k (i + 1) (by omega) (by omega)
def turnS (v n : Int) : Int × Int := if fitB v n 16 = true then (tu v n.toNat, 0) else (0, 2)
theorem turn_eq {k : Nat} (hk : 40 ≤ k) (v n : Int) (hv : v ≤ 9223372036854775807) : bits_Turn.f k v n = some (turnS v n) := by
  unfold bits_Turn.f turnS
  rw [fits_eq v n 16 (by omega)]
  simp only [Option.bind_some]
  cases hf : fitB v n 16 with
  | false => simp
  | true =>
    obtain ⟨f1, f2, f3, f4⟩ := fitB_iff.1 hf
    obtain ⟨d, rfl⟩ : ∃ m : Nat, n = (m : Int) := ⟨n.toNat, by omega⟩
    simp only [if_true, Int.toNat_natCast]
    have := turnl_eq v f3 hv d (by omega) d k 0 (by omega) (by omega)
    simpa [tu] using this
end Go.Proofs.Ytggmffmajgnhkaa.Pr
