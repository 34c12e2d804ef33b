/- Any symbol's code is laid behind any row as the document says, or refused: both lay the code's bits, the highest first, behind the row. No condition. -/
import Derived.Test.YthcndpdfcippiaaPr0
import Derived.Test.YthcndpdfcippiaaPr1
import Derived.Test.YthcndpdfcippiaaPr5
import Derived.Test.YthcndpdfcippiaaPr7
import Derived.Test.YthcndpdfcippiaaPr8
import Derived.Test.YthcndpdfcippiaaPr9
import Derived.Test.YthcndpdfcippiaaPr10
import Derived.Test.YthcndpdfcippiaaPr11
import Derived.Test.YthcndpdfcippiaaPr12
import Derived.Test.YthcndpdfcippiaaPr13
import Derived.Test.YthcndpdfcippiaaPr14
import Derived.Test.YthcndpdfcippiaaPr15
import Derived.Test.YthcndpdfcippiaaPr16
import Derived.Test.YthcndpdfcippiaaPr18
import Derived.Test.YthcndpdfcippiaaPr19
import Derived.Test.YthcndpdfcippiaaPr20
import Derived.Test.YthcndpdfcippiaaPr21
import Derived.Test.YthcndpdfcippiaaPr22
import Derived.Test.YthcndpdfcippiaaPr23
import Derived.Test.YthcndpdfcippiaaPh1
namespace Go.Proofs.Ythcndpdfcippiaa.Pr
open Go.RowKit Go.Proofs.YthcndpdfcippiaaW.PrintWords Go.Proofs.YthcndpdfcippiaaW.PrintLast Go.Proofs.YthcndpdfcippiaaW.PrintMore
set_option linter.unusedVariables false
set_option linter.unusedSimpArgs false
set_option maxRecDepth 100000
/-! ### Numbers and their bits -/
theorem pow8 (j : Nat) (h : j < 8) : (2 : Int) ^ j = 1 ∧ j = 0 ∨ (2 : Int) ^ j = 2 ∧ j = 1 ∨ (2 : Int) ^ j = 4 ∧ j = 2 ∨ (2 : Int) ^ j = 8 ∧ j = 3 ∨ (2 : Int) ^ j = 16 ∧ j = 4 ∨ (2 : Int) ^ j = 32 ∧ j = 5 ∨ (2 : Int) ^ j = 64 ∧ j = 6 ∨ (2 : Int) ^ j = 128 ∧ j = 7 := by
  match j, h with
  | 0, _ => simp
  | 1, _ => simp
  | 2, _ => simp
  | 3, _ => simp
  | 4, _ => simp
  | 5, _ => simp
  | 6, _ => simp
  | 7, _ => simp
theorem wrapid {x : Int} (h0 : -9223372036854775808 ≤ x) (h1 : x ≤ 9223372036854775807) : wrap64 x = x := by unfold wrap64; omega
theorem i64of (a : Nat) (ha : a < 9223372036854775808) : (BitVec.ofInt 64 (a : Int)).toNat = a := by
  rw [BitVec.ofInt_natCast, BitVec.toNat_ofNat]; exact Nat.mod_eq_of_lt (by omega)
theorem i64andN (a b : Nat) (ha : a < 9223372036854775808) (hb : b < 9223372036854775808) : Go.bits .and .i64 (a : Int) (b : Int) = ((a &&& b : Nat) : Int) := by
  have hx : a &&& b < 2 ^ 63 := Nat.and_lt_two_pow _ (by omega)
  show IntKind.i64.wrap ((BitVec.ofInt 64 (a : Int) &&& BitVec.ofInt 64 (b : Int)).toNat : Int) = _
  rw [BitVec.toNat_and, i64of a ha, i64of b hb, IntKind.wrap_i64]
  omega
theorem i64orN (a b : Nat) (ha : a < 9223372036854775808) (hb : b < 9223372036854775808) : Go.bits .or .i64 (a : Int) (b : Int) = ((a ||| b : Nat) : Int) := by
  have hx : a ||| b < 2 ^ 63 := Nat.or_lt_two_pow (by omega) (by omega)
  show IntKind.i64.wrap ((BitVec.ofInt 64 (a : Int) ||| BitVec.ofInt 64 (b : Int)).toNat : Int) = _
  rw [BitVec.toNat_or, i64of a ha, i64of b hb, IntKind.wrap_i64]
  omega
theorem and7 (n : Int) (h0 : 0 ≤ n) (h1 : n ≤ 9223372036854775807) : Go.bits .and .i64 n 7 = n % 8 := by
  have h := i64andN n.toNat 7 (by omega) (by omega)
  rw [show ((n.toNat : Nat) : Int) = n by omega] at h
  rw [show (7 : Int) = ((7 : Nat) : Int) from rfl, h, Nat.and_two_pow_sub_one_eq_mod n.toNat 3]
  omega
theorem and1 (n : Int) (h0 : 0 ≤ n) (h1 : n ≤ 9223372036854775807) : Go.bits .and .i64 n 1 = n % 2 := by
  have h := i64andN n.toNat 1 (by omega) (by omega)
  rw [show ((n.toNat : Nat) : Int) = n by omega] at h
  rw [show (1 : Int) = ((1 : Nat) : Int) from rfl, h, Nat.and_two_pow_sub_one_eq_mod n.toNat 1]
  omega
/-- or of a number below 2^i and b at the place i: their sum. -/
theorem orAdd (x i b : Nat) (hx : x < 2 ^ i) (hb : b = 0 ∨ b = 1) : x ||| (b * 2 ^ i) = x + b * 2 ^ i := by
  rcases hb with rfl | rfl
  · simp
  · have h := Nat.two_pow_add_eq_or_of_lt hx 1
    rw [Nat.mul_one] at h
    rw [Nat.one_mul, Nat.or_comm, ← h, Nat.add_comm]
theorem shr_eq (x : Int) (i : Nat) (hi : i ≤ 64) : shr .i64 x (i : Int) = x / 2 ^ i := by
  unfold shr
  rw [Int.toNat_natCast, Nat.min_eq_left (by simpa [IntKind.bits] using hi)]
theorem shr8_eq (x : Int) (i : Nat) (hi : i ≤ 8) : shr .u8 x (i : Int) = x / 2 ^ i := by
  unfold shr
  rw [Int.toNat_natCast, Nat.min_eq_left (by simpa [IntKind.bits] using hi)]
theorem shl_eq (x : Int) (i : Nat) (hi : i ≤ 64) : shl .i64 x (i : Int) = wrap64 (x * 2 ^ i) := by
  unfold shl
  rw [Int.toNat_natCast, Nat.min_eq_left (by simpa [IntKind.bits] using hi), i64_w]
theorem shl8_eq (x : Int) (i : Nat) (hi : i ≤ 8) : shl .u8 x (i : Int) = (x * 2 ^ i) % 256 := by
  unfold shl
  rw [Int.toNat_natCast, Nat.min_eq_left (by simpa [IntKind.bits] using hi), IntKind.wrap_u8]
/-- The bit i of a number. -/
def vb (v : Int) (i : Nat) : Int := v / 2 ^ i % 2
theorem vb_01 (v : Int) (i : Nat) : vb v i = 0 ∨ vb v i = 1 := by unfold vb; omega
theorem vb_zero (v : Int) : vb v 0 = v % 2 := by unfold vb; simp
theorem div_pow_succ (v : Int) (i : Nat) : v / 2 ^ (i + 1) = v / 2 ^ i / 2 := by rw [Int.pow_succ, ← Int.ediv_ediv_of_nonneg (Int.le_of_lt (Int.pow_pos (by omega)))]
theorem vb_step (v : Int) (i : Nat) : v / 2 ^ i = 2 * (v / 2 ^ (i + 1)) + vb v i := by rw [div_pow_succ]; unfold vb; omega
theorem vb_half (v : Int) (i : Nat) : vb v (i + 1) = vb (v / 2) i := by
  unfold vb
  rw [Int.pow_succ, Int.mul_comm, ← Int.ediv_ediv_of_nonneg (by omega)]
theorem div_small {v : Int} {n : Nat} (h0 : 0 ≤ v) (h : v < 2 ^ n) : v / 2 ^ n = 0 := Int.ediv_eq_zero_of_lt h0 h
theorem pow_pos2 (n : Nat) : (0 : Int) < 2 ^ n := Int.pow_pos (by omega)
theorem pow_le2 {m n : Nat} (h : m ≤ n) : (2 : Int) ^ m ≤ 2 ^ n := by
  have := Nat.pow_le_pow_right (n := 2) (by omega) h
  have h2 : ((2 ^ m : Nat) : Int) ≤ ((2 ^ n : Nat) : Int) := by omega
  simpa using h2
theorem lt_of_div_zero {v : Int} {n : Nat} (h : v / 2 ^ n = 0) : v < 2 ^ n := by
  have := Int.lt_mul_ediv_self_add (x := v) (pow_pos2 n)
  rw [h] at this
  omega
/-- shift and mask: the bit. -/
theorem bit_of (v : Int) (i : Nat) (hi : i ≤ 64) (h0 : 0 ≤ v) (h1 : v ≤ 9223372036854775807) : Go.bits .and .i64 (shr .i64 v (i : Int)) 1 = vb v i := by
  rw [shr_eq v i hi]
  have hp := pow_pos2 i
  have hq : v / 2 ^ i ≤ v := Int.ediv_le_self _ h0
  have hr : 0 ≤ v / 2 ^ i := Int.ediv_nonneg h0 (by omega)
  rw [and1 _ hr (by omega)]
  rfl
/-! ### Rows: lists of bytes and how many bits they have -/
def Byt (l : List Int) : Prop := ∀ x ∈ l, 0 ≤ x ∧ x < 256
theorem byt_nil : Byt [] := fun x h => by cases h
theorem byt_get {l : List Int} (h : Byt l) (i : Nat) : 0 ≤ l.getD i 0 ∧ l.getD i 0 < 256 := by
  rw [List.getD_eq_getElem?_getD]
  by_cases hi : i < l.length
  · rw [List.getElem?_eq_getElem hi]
    exact h _ (List.getElem_mem hi)
  · rw [List.getElem?_eq_none (by omega)]
    simp
theorem byt_app {l m : List Int} (h : Byt l) (h2 : Byt m) : Byt (l ++ m) := fun x hx => by
  rcases List.mem_append.1 hx with hx | hx
  · exact h x hx
  · exact h2 x hx
theorem byt_set {l : List Int} (h : Byt l) (i : Nat) {x : Int} (hx : 0 ≤ x ∧ x < 256) : Byt (l.set i x) := fun y hy => by
  rcases List.mem_or_eq_of_mem_set hy with hy | rfl
  · exact h y hy
  · exact hx
theorem rd_nat (l : List Int) (i : Nat) : rd l (i : Int) = l.getD i 0 := by unfold rd; rw [Int.toNat_natCast]
def bat (l : List Int) (k : Nat) : Int := l.getD (k / 8) 0 / 2 ^ (k % 8) % 2
theorem bat_01 (l : List Int) (k : Nat) : bat l k = 0 ∨ bat l k = 1 := by unfold bat; omega
/-- The row is right: its bytes are as many as its bits need, the bits of the last byte behind the row are 0. -/
def Rgt (l : List Int) (n : Nat) : Prop := Byt l ∧ l.length = (n + 7) / 8 ∧ l.getD (n / 8) 0 < 2 ^ (n % 8)
theorem rgt_nil : Rgt [] 0 := ⟨byt_nil, rfl, by simp⟩
theorem rgt_whole {l : List Int} (h : Byt l) : Rgt l (8 * l.length) := by
  refine ⟨h, by omega, ?_⟩
  rw [show 8 * l.length / 8 = l.length by omega, show 8 * l.length % 8 = 0 by omega, List.getD_eq_getElem?_getD, List.getElem?_eq_none (by omega)]
  simp
def lay (l : List Int) (n : Nat) (b : Int) : List Int := if n % 8 = 0 then l ++ [b] else l.set (n / 8) (l.getD (n / 8) 0 + b * 2 ^ (n % 8))
theorem getD_set {l : List Int} {i : Nat} (hi : i < l.length) (x : Int) (j : Nat) : (l.set i x).getD j 0 = if j = i then x else l.getD j 0 := by
  rw [List.getD_eq_getElem?_getD, List.getD_eq_getElem?_getD]
  by_cases h : j = i
  · subst h
    rw [List.getElem?_set_self hi, if_pos rfl]; rfl
  · rw [List.getElem?_set_ne (Ne.symm h), if_neg h]
theorem getD_snoc (l : List Int) (x : Int) (j : Nat) : (l ++ [x]).getD j 0 = if j = l.length then x else l.getD j 0 := by
  rw [List.getD_eq_getElem?_getD, List.getD_eq_getElem?_getD]
  by_cases h : j < l.length
  · rw [List.getElem?_append_left h, if_neg (by omega)]
  · rw [List.getElem?_append_right (by omega)]
    by_cases h2 : j = l.length
    · subst h2
      simp
    · rw [if_neg h2, List.getElem?_eq_none (l := l) (by omega)]
      obtain ⟨d, hd⟩ : ∃ d, j - l.length = d + 1 := ⟨j - l.length - 1, by omega⟩
      rw [hd]
      simp
theorem lay_len {l : List Int} {n : Nat} (h : Rgt l n) (b : Int) : (lay l n b).length = (n + 1 + 7) / 8 := by
  have := h.2.1
  unfold lay
  by_cases h8 : n % 8 = 0
  · rw [if_pos h8, List.length_append, List.length_cons, List.length_nil]; omega
  · rw [if_neg h8, List.length_set]; omega
theorem lay_getD {l : List Int} {n : Nat} (h : Rgt l n) (b : Int) (j : Nat) : (lay l n b).getD j 0 = if j = n / 8 then l.getD (n / 8) 0 + b * 2 ^ (n % 8) else l.getD j 0 := by
  have hl := h.2.1
  unfold lay
  by_cases h8 : n % 8 = 0
  · rw [if_pos h8, getD_snoc]
    by_cases hj : j = l.length
    · rw [if_pos hj, if_pos (by omega), h8]
      rw [List.getD_eq_getElem?_getD, List.getElem?_eq_none (by omega)]
      simp
    · rw [if_neg hj, if_neg (by omega)]
  · rw [if_neg h8, getD_set (by omega)]
theorem lay_rgt {l : List Int} {n : Nat} (h : Rgt l n) {b : Int} (hb : b = 0 ∨ b = 1) : Rgt (lay l n b) (n + 1) := by
  obtain ⟨h1, h2, h3⟩ := h
  have hx := byt_get h1 (n / 8)
  have hr : 0 ≤ l.getD (n / 8) 0 + b * 2 ^ (n % 8) ∧ l.getD (n / 8) 0 + b * 2 ^ (n % 8) < 256 := by
    rcases pow8 (n % 8) (by omega) with ⟨e, _⟩ | ⟨e, _⟩ | ⟨e, _⟩ | ⟨e, _⟩ | ⟨e, _⟩ | ⟨e, _⟩ | ⟨e, _⟩ | ⟨e, _⟩ <;> rw [e] at h3 ⊢ <;> rcases hb with rfl | rfl <;> omega
  refine ⟨?_, lay_len ⟨h1, h2, h3⟩ b, ?_⟩
  · unfold lay
    by_cases h8 : n % 8 = 0
    · rw [if_pos h8]
      refine byt_app h1 (fun x hx => ?_)
      rw [List.mem_singleton] at hx
      subst hx
      omega
    · rw [if_neg h8]
      exact byt_set h1 _ hr
  · rw [lay_getD ⟨h1, h2, h3⟩]
    by_cases hj : (n + 1) / 8 = n / 8
    · rw [if_pos hj]
      generalize l.getD (n / 8) 0 = x at h3 hx hr ⊢
      rcases pow8 (n % 8) (by omega) with ⟨e, e2⟩ | ⟨e, e2⟩ | ⟨e, e2⟩ | ⟨e, e2⟩ | ⟨e, e2⟩ | ⟨e, e2⟩ | ⟨e, e2⟩ | ⟨e, e2⟩ <;> rw [e] at h3 ⊢
      · rw [show (n + 1) % 8 = 1 by omega]; rcases hb with rfl | rfl <;> simp <;> omega
      · rw [show (n + 1) % 8 = 2 by omega]; rcases hb with rfl | rfl <;> simp <;> omega
      · rw [show (n + 1) % 8 = 3 by omega]; rcases hb with rfl | rfl <;> simp <;> omega
      · rw [show (n + 1) % 8 = 4 by omega]; rcases hb with rfl | rfl <;> simp <;> omega
      · rw [show (n + 1) % 8 = 5 by omega]; rcases hb with rfl | rfl <;> simp <;> omega
      · rw [show (n + 1) % 8 = 6 by omega]; rcases hb with rfl | rfl <;> simp <;> omega
      · rw [show (n + 1) % 8 = 7 by omega]; rcases hb with rfl | rfl <;> simp <;> omega
      · omega
    · rw [if_neg hj, List.getD_eq_getElem?_getD, List.getElem?_eq_none (by omega)]
      exact pow_pos2 _
theorem lay_bat {l : List Int} {n : Nat} (h : Rgt l n) {b : Int} (hb : b = 0 ∨ b = 1) (k : Nat) : bat (lay l n b) k = if k = n then b else bat l k := by
  unfold bat
  rw [lay_getD h]
  by_cases hj : k / 8 = n / 8
  · rw [if_pos hj, hj]
    have h3 := h.2.2
    have hx := byt_get h.1 (n / 8)
    generalize l.getD (n / 8) 0 = x at h3 hx ⊢
    by_cases hk : k = n
    · rw [if_pos hk, hk]
      rcases pow8 (n % 8) (by omega) with ⟨e, _⟩ | ⟨e, _⟩ | ⟨e, _⟩ | ⟨e, _⟩ | ⟨e, _⟩ | ⟨e, _⟩ | ⟨e, _⟩ | ⟨e, _⟩ <;> rw [e] at h3 ⊢ <;> rcases hb with rfl | rfl <;> omega
    · rw [if_neg hk]
      have hne : k % 8 ≠ n % 8 := by omega
      rcases pow8 (n % 8) (by omega) with ⟨e, e2⟩ | ⟨e, e2⟩ | ⟨e, e2⟩ | ⟨e, e2⟩ | ⟨e, e2⟩ | ⟨e, e2⟩ | ⟨e, e2⟩ | ⟨e, e2⟩ <;> rw [e] at h3 ⊢ <;> rcases pow8 (k % 8) (by omega) with ⟨f, f2⟩ | ⟨f, f2⟩ | ⟨f, f2⟩ | ⟨f, f2⟩ | ⟨f, f2⟩ | ⟨f, f2⟩ | ⟨f, f2⟩ | ⟨f, f2⟩ <;> rw [f] <;> rcases hb with rfl | rfl <;> omega
  · rw [if_neg hj, if_neg (by omega)]
theorem bat_beyond {l : List Int} {n : Nat} (h : Rgt l n) {k : Nat} (hk : n ≤ k) : bat l k = 0 := by
  unfold bat
  have hx := byt_get h.1 (k / 8)
  by_cases hj : k / 8 = n / 8
  · have h3 := h.2.2
    rw [← hj] at h3
    generalize l.getD (k / 8) 0 = x at h3 hx ⊢
    rcases pow8 (n % 8) (by omega) with ⟨e, e2⟩ | ⟨e, e2⟩ | ⟨e, e2⟩ | ⟨e, e2⟩ | ⟨e, e2⟩ | ⟨e, e2⟩ | ⟨e, e2⟩ | ⟨e, e2⟩ <;> rw [e] at h3 <;> rcases pow8 (k % 8) (by omega) with ⟨f, f2⟩ | ⟨f, f2⟩ | ⟨f, f2⟩ | ⟨f, f2⟩ | ⟨f, f2⟩ | ⟨f, f2⟩ | ⟨f, f2⟩ | ⟨f, f2⟩ <;> rw [f] <;> omega
  · have hl := h.2.1
    rw [List.getD_eq_getElem?_getD, List.getElem?_eq_none (by omega)]
    simp
theorem rgt_ext {l m : List Int} {n : Nat} (h : Rgt l n) (h' : Rgt m n) (hb : ∀ k, k < n → bat l k = bat m k) : l = m := by
  have hall : ∀ k, bat l k = bat m k := fun k => by
    rcases Nat.lt_or_ge k n with hk | hk
    · exact hb k hk
    · rw [bat_beyond h hk, bat_beyond h' hk]
  refine List.ext_getElem (by rw [h.2.1, h'.2.1]) (fun i h1 h2 => ?_)
  have e1 : l.getD i 0 = l[i] := by rw [List.getD_eq_getElem?_getD, List.getElem?_eq_getElem h1]; rfl
  have e2 : m.getD i 0 = m[i] := by rw [List.getD_eq_getElem?_getD, List.getElem?_eq_getElem h2]; rfl
  have b1 := byt_get h.1 i
  have b2 := byt_get h'.1 i
  rw [← e1, ← e2]
  have g : ∀ j : Nat, j < 8 → l.getD i 0 / 2 ^ j % 2 = m.getD i 0 / 2 ^ j % 2 := fun j hj => by
    have := hall (8 * i + j)
    unfold bat at this
    rwa [show (8 * i + j) / 8 = i by omega, show (8 * i + j) % 8 = j by omega] at this
  have g0 := g 0 (by omega)
  have g1 := g 1 (by omega)
  have g2 := g 2 (by omega)
  have g3 := g 3 (by omega)
  have g4 := g 4 (by omega)
  have g5 := g 5 (by omega)
  have g6 := g 6 (by omega)
  have g7 := g 7 (by omega)
  generalize l.getD i 0 = x at *
  generalize m.getD i 0 = y at *
  simp at g0 g1 g2 g3 g4 g5 g6 g7
  omega
/-- Many bits, one by one. -/
def layA : List Int → Nat → List Int → List Int
  | l, _, [] => l
  | l, n, b :: bs => layA (lay l n b) (n + 1) bs
theorem layA_app (l : List Int) (n : Nat) (bs cs : List Int) : layA l n (bs ++ cs) = layA (layA l n bs) (n + bs.length) cs := by
  induction bs generalizing l n with
  | nil => rfl
  | cons b bs ih =>
    rw [List.cons_append, layA, layA, ih, List.length_cons, show n + 1 + bs.length = n + (bs.length + 1) by omega]
theorem layA_rgt {l : List Int} {n : Nat} (h : Rgt l n) {bs : List Int} (hb : ∀ b ∈ bs, b = 0 ∨ b = 1) : Rgt (layA l n bs) (n + bs.length) := by
  induction bs generalizing l n with
  | nil => exact h
  | cons b bs ih =>
    have := ih (lay_rgt h (hb b (by simp))) (fun x hx => hb x (by simp [hx]))
    rw [List.length_cons, show n + (bs.length + 1) = n + 1 + bs.length by omega]
    exact this
theorem layA_bat {l : List Int} {n : Nat} (h : Rgt l n) {bs : List Int} (hb : ∀ b ∈ bs, b = 0 ∨ b = 1) (k : Nat) : bat (layA l n bs) k = if n ≤ k ∧ k < n + bs.length then bs.getD (k - n) 0 else bat l k := by
  induction bs generalizing l n with
  | nil => rw [if_neg (by simp), layA]
  | cons b bs ih =>
    rw [layA, ih (lay_rgt h (hb b (by simp))) (fun x hx => hb x (by simp [hx])), lay_bat h (hb b (by simp))]
    by_cases h1 : k = n
    · subst h1
      rw [if_neg (by omega), if_pos rfl, if_pos (by simp)]
      simp
    · by_cases h2 : n + 1 ≤ k ∧ k < n + 1 + bs.length
      · rw [if_pos h2, if_pos (by rw [List.length_cons]; omega)]
        obtain ⟨d, hd⟩ : ∃ d, k - n = d + 1 := ⟨k - n - 1, by omega⟩
        rw [hd, show k - (n + 1) = d by omega]
        simp
      · rw [if_neg h2, if_neg h1, if_neg (by rw [List.length_cons]; omega)]
/-- The bits i, i + 1, .. of a number. -/
def bitsV (v : Int) (i : Nat) : Nat → List Int
  | 0 => []
  | c + 1 => vb v i :: bitsV v (i + 1) c
theorem bitsV_len (v : Int) (i c : Nat) : (bitsV v i c).length = c := by
  induction c generalizing i with
  | zero => rfl
  | succ c ih => rw [bitsV, List.length_cons, ih]
theorem bitsV_01 (v : Int) (i c : Nat) : ∀ b ∈ bitsV v i c, b = 0 ∨ b = 1 := by
  induction c generalizing i with
  | zero => intro b hb; cases hb
  | succ c ih =>
    intro b hb
    rw [bitsV, List.mem_cons] at hb
    rcases hb with rfl | hb
    · exact vb_01 _ _
    · exact ih _ b hb
theorem bitsV_get (v : Int) (i c j : Nat) (hj : j < c) : (bitsV v i c).getD j 0 = vb v (i + j) := by
  induction c generalizing i j with
  | zero => omega
  | succ c ih =>
    cases j with
    | zero => rfl
    | succ j =>
      rw [bitsV]
      have := ih (i + 1) j (by omega)
      simp only [List.getD_cons_succ]
      rw [this, show i + 1 + j = i + (j + 1) by omega]
/-! ### What the functions of layer 1 compute -/
def okR (l : List Int) (n : Int) : Bool := decide (0 ≤ n) && decide (l.length = (n.toNat + 7) / 8) && decide (l.getD (n.toNat / 8) 0 < 2 ^ (n.toNat % 8))
theorem okR_iff {l : List Int} {n : Int} (hb : Byt l) : okR l n = true ↔ 0 ≤ n ∧ Rgt l n.toNat := by
  unfold okR Rgt
  simp only [Bool.and_eq_true, decide_eq_true_eq]
  exact ⟨fun h => ⟨h.1.1, hb, h.1.2, h.2⟩, fun h => ⟨⟨h.1, h.2.2.1⟩, h.2.2.2⟩⟩
theorem okR_nat {l : List Int} {n : Nat} (h : Rgt l n) : okR l (n : Int) = true := (okR_iff h.1).2 ⟨by omega, by rw [Int.toNat_natCast]; exact h⟩
/-- The last byte behind the row's bits. -/
theorem last_zero {l : List Int} {n : Nat} (hb : Byt l) (hl : l.length = (n + 7) / 8) (h8 : n % 8 ≠ 0) : (l.getD (n / 8) 0 / 2 ^ (n % 8) = 0) ↔ l.getD (n / 8) 0 < 2 ^ (n % 8) :=
  ⟨lt_of_div_zero, fun h => div_small (byt_get hb _).1 h⟩
theorem check_eq {k : Nat} (hk : 1 ≤ k) {l : List Int} {n : Int} (hb : Byt l) (hl : l.length ≤ 140737488355328) (h0 : -9223372036854775808 ≤ n) (h1 : n ≤ 9223372036854775807) : bits_Check.f k l n = some (if okR l n = true then 0 else 2) := by
  obtain ⟨k, rfl⟩ : ∃ m, k = m + 1 := ⟨k - 1, by omega⟩
  unfold bits_Check.f
  by_cases hn : n < 0
  · rw [if_pos hn]
    have : okR l n = false := by unfold okR; simp; omega
    simp [bits_Check.j0, this]
  · rw [if_neg hn, and7 n (by omega) h1]
    obtain ⟨m, rfl⟩ : ∃ m : Nat, n = (m : Int) := ⟨n.toNat, by omega⟩
    have e1 : wrap64 ((m : Int) % 8 + 7) = (m : Int) % 8 + 7 := wrapid (by omega) (by omega)
    have e2 : wrap64 ((m : Int) / 8 + ((m : Int) % 8 + 7) / 8) = ((m + 7) / 8 : Nat) := by rw [wrapid (by omega) (by omega)]; omega
    rw [e1, e2]
    by_cases hlen : l.length = (m + 7) / 8
    · have e3 : (((l.length : Nat) : Int) != (((m + 7) / 8 : Nat) : Int)) = false := by rw [bne_eq_false_iff_eq]; omega
      rw [e3]
      simp only [bits_Check.j0, Bool.false_eq_true, if_false]
      rw [and7 _ (by omega) h1]
      by_cases h8 : (m : Int) % 8 = 0
      · rw [if_pos h8]
        have : okR l (m : Int) = true := by
          unfold okR
          rw [Int.toNat_natCast, List.getD_eq_getElem?_getD, List.getElem?_eq_none (by omega)]
          simp [hlen]
          exact pow_pos2 _
        rw [this]; rfl
      · rw [if_neg h8]
        have e4 : wrap64 ((l.length : Int) - 1) = ((m / 8 : Nat) : Int) := by rw [wrapid (by omega) (by omega)]; omega
        rw [e4, if_pos (by omega), if_pos (by omega), if_pos (by omega), rd_nat, show (m : Int) % 8 = ((m % 8 : Nat) : Int) by omega, shr8_eq _ _ (by omega)]
        by_cases hz : l.getD (m / 8) 0 < 2 ^ (m % 8)
        · rw [if_pos ((last_zero hb hlen (by omega)).2 hz)]
          have : okR l (m : Int) = true := by unfold okR; rw [Int.toNat_natCast]; simp only [Bool.and_eq_true, decide_eq_true_eq]; exact ⟨⟨by omega, hlen⟩, hz⟩
          rw [this]; rfl
        · rw [if_neg (fun h => hz ((last_zero hb hlen (by omega)).1 h))]
          have : okR l (m : Int) = false := by unfold okR; rw [Int.toNat_natCast]; simp only [Bool.and_eq_false_iff, decide_eq_false_iff_not]; exact .inr hz
          rw [this]; rfl
    · have e3 : (((l.length : Nat) : Int) != (((m + 7) / 8 : Nat) : Int)) = true := by rw [bne_iff_ne]; omega
      rw [e3]
      have : okR l (m : Int) = false := by unfold okR; rw [Int.toNat_natCast]; simp only [Bool.and_eq_false_iff, decide_eq_false_iff_not]; exact .inl (.inr hlen)
      rw [this]
      simp [bits_Check.j0]
def fitB (v n m : Int) : Bool := decide (0 ≤ n) && decide (n ≤ m) && decide (0 ≤ v) && decide (v < 2 ^ n.toNat)
theorem fitB_iff {v n m : Int} : fitB v n m = true ↔ 0 ≤ n ∧ n ≤ m ∧ 0 ≤ v ∧ v < 2 ^ n.toNat := by unfold fitB; simp [and_assoc]
theorem fits_eq (v n m : Int) (hm : m ≤ 64) : bits_fits.f v n m = some (fitB v n m) := by
  unfold bits_fits.f fitB
  by_cases h1 : n ≥ 0
  · by_cases h2 : n ≤ m
    · by_cases h3 : v ≥ 0
      · obtain ⟨c, rfl⟩ : ∃ c : Nat, n = (c : Int) := ⟨n.toNat, by omega⟩
        rw [if_pos h1, if_pos h2, if_pos h3, if_pos h1, shr_eq v c (by omega), Int.toNat_natCast]
        congr 1
        have : (v / 2 ^ c == 0) = decide (v < 2 ^ c) := by
          rw [Bool.eq_iff_iff]; simp only [beq_iff_eq, decide_eq_true_eq]
          exact ⟨lt_of_div_zero, fun h => div_small h3 h⟩
        rw [this]
        simp [h1, h2, h3]
      · rw [if_pos h1, if_pos h2, if_neg h3]; simp [h3]
    · rw [if_pos h1, if_neg h2]; simp [h2]
  · rw [if_neg h1]; simp [h1]
/-- A bit as the program lays it. -/
theorem put1_eq {l : List Int} {n : Nat} (h : Rgt l n) {b : Int} (hb : b = 0 ∨ b = 1) (hn : n ≤ 1125899906842616) : put1 l (n : Int) b = some (lay l n b, ((n + 1 : Nat) : Int)) := by
  have hl := h.2.1
  have a7 : Go.bits .and .i64 (n : Int) 7 = ((n % 8 : Nat) : Int) := by rw [and7 _ (by omega) (by omega)]; omega
  have e8 : (n : Int) / 8 = ((n / 8 : Nat) : Int) := by omega
  have hlay := lay_getD h b (n / 8)
  unfold put1
  rw [a7, e8, wrapid (by omega) (by omega)]
  have hx := byt_get h.1 (n / 8)
  have h3 := h.2.2
  have hs : shl .i64 b ((n % 8 : Nat) : Int) = b * 2 ^ (n % 8) ∧ 0 ≤ b * 2 ^ (n % 8) ∧ b * 2 ^ (n % 8) < 256 := by
    rw [shl_eq b (n % 8) (by omega)]
    rcases pow8 (n % 8) (by omega) with ⟨e, _⟩ | ⟨e, _⟩ | ⟨e, _⟩ | ⟨e, _⟩ | ⟨e, _⟩ | ⟨e, _⟩ | ⟨e, _⟩ | ⟨e, _⟩ <;> rw [e] <;> rcases hb with rfl | rfl <;> exact ⟨wrapid (by omega) (by omega), by omega, by omega⟩
  have hor : ∀ x : Int, 0 ≤ x → x < 2 ^ (n % 8) → Go.bits .or .u8 x (b * 2 ^ (n % 8)) = x + b * 2 ^ (n % 8) := by
    intro x hx0 hx1
    obtain ⟨c, rfl⟩ : ∃ c : Nat, x = (c : Int) := ⟨x.toNat, by omega⟩
    obtain ⟨d, rfl⟩ : ∃ d : Nat, b = (d : Int) := ⟨b.toNat, by omega⟩
    have hp : ((2 ^ (n % 8) : Nat) : Int) = 2 ^ (n % 8) := by simp
    have hc : c < 2 ^ (n % 8) := by omega
    have hlt : 2 ^ (n % 8) ≤ 128 := by
      have := Nat.pow_le_pow_right (n := 2) (by omega) (show n % 8 ≤ 7 by omega)
      simpa using this
    have hd : d * 2 ^ (n % 8) < 256 := by
      have h2 := hs.2.2
      rw [← hp] at h2
      have h4 : ((d * 2 ^ (n % 8) : Nat) : Int) < 256 := by rw [Int.natCast_mul]; exact h2
      omega
    have e1 : (d : Int) * 2 ^ (n % 8) = ((d * 2 ^ (n % 8) : Nat) : Int) := by rw [Int.natCast_mul, hp]
    rw [e1, u8_or_nat c _ (by omega) hd, orAdd c (n % 8) d hc (by omega)]
    omega
  by_cases h8 : n % 8 = 0
  · rw [if_pos (by omega), if_pos (by omega)]
    simp only [Option.bind_some]
    rw [if_pos (by omega), if_pos (by rw [List.length_append, List.length_cons, List.length_nil]; omega), if_pos (by omega), hs.1, Int.emod_eq_of_lt hs.2.1 hs.2.2, rd_nat, Int.toNat_natCast]
    have hz : (l ++ [0]).getD (n / 8) 0 = 0 := by rw [getD_snoc, if_pos (by omega)]
    rw [hz, hor 0 (by omega) (pow_pos2 _)]
    unfold lay
    rw [if_pos h8, show n / 8 = l.length by omega, h8, List.set_append_right _ _ (by omega)]
    simp
  · rw [if_neg (by omega)]
    simp only [Option.bind_some]
    rw [if_pos (by omega), if_pos (by omega), if_pos (by omega), hs.1, Int.emod_eq_of_lt hs.2.1 hs.2.2, rd_nat, Int.toNat_natCast, hor _ hx.1 h3]
    unfold lay
    rw [if_neg h8]
    rfl
theorem putl_eq (v : Int) (hv0 : 0 ≤ v) (hv1 : v ≤ 9223372036854775807) (c : Nat) (hc : c ≤ 64) : ∀ (d k i : Nat) {l : List Int} {n : Nat}, i + d = c → d < k → Rgt l n → n + d ≤ 1125899906842616 →
    bits_Put.l0 k l (n : Int) v (c : Int) (i : Int) = some (layA l n (bitsV v i d), ((n + d : Nat) : Int)) := by
  intro d
  induction d with
  | zero =>
    intro k i l n hi hk h hn
    obtain ⟨k, rfl⟩ : ∃ m, k = m + 1 := ⟨k - 1, by omega⟩
    simp only [bits_Put.l0]
    rw [if_neg (by omega)]
    rfl
  | succ d ih =>
    intro k i l n hi hk h hn
    obtain ⟨k, rfl⟩ : ∃ m, k = m + 1 := ⟨k - 1, by omega⟩
    simp only [bits_Put.l0]
    rw [if_pos (by omega), if_pos (by omega), bit_of v i (by omega) hv0 hv1, put1_eq h (vb_01 v i) (by omega)]
    simp only [Option.bind_some]
    rw [show wrap64 ((i : Int) + 1) = ((i + 1 : Nat) : Int) by rw [wrapid (by omega) (by omega)]; omega]
    rw [ih k (i + 1) (by omega) (by omega) (lay_rgt h (vb_01 v i)) (by omega), bitsV, layA, show n + 1 + d = n + (d + 1) by omega]
def putS (l : List Int) (n v c : Int) : List Int × Int × Int := if (okR l n && fitB v c 32) = true then (layA l n.toNat (bitsV v 0 c.toNat), n + c, 0) else ([], 0, 2)
theorem put_eq {k : Nat} (hk : 40 ≤ k) {l : List Int} {n v c : Int} (hb : Byt l) (hl : l.length ≤ 140737488355000) (h0 : -9223372036854775808 ≤ n) (h1 : n ≤ 9223372036854775807) (hv : v ≤ 9223372036854775807) : bits_Put.f k l n v c = some (putS l n v c) := by
  unfold bits_Put.f putS
  rw [check_eq (by omega) hb (by omega) h0 h1]
  simp only [Option.bind_some]
  cases hr : okR l n with
  | false => simp
  | true =>
    rw [fits_eq v c 32 (by omega)]
    simp only [Option.bind_some, if_true]
    cases hf : fitB v c 32 with
    | false => simp
    | true =>
      obtain ⟨f1, f2, f3, f4⟩ := fitB_iff.1 hf
      obtain ⟨r1, r2⟩ := (okR_iff hb).1 hr
      obtain ⟨m, rfl⟩ : ∃ m : Nat, n = (m : Int) := ⟨n.toNat, by omega⟩
      obtain ⟨d, rfl⟩ : ∃ m : Nat, c = (m : Int) := ⟨c.toNat, by omega⟩
      rw [Int.toNat_natCast] at r2
      have hm := r2.2.1
      simp only [if_true, slices_Clone_byte_byte.f, Bool.and_self]
      rw [if_pos (show l.length < 140737488355328 by omega)]
      simp only [Option.bind_some]
      have := putl_eq v f3 hv d (by omega) d k 0 (by omega) (by omega) r2 (by omega)
      rw [show (0 : Int) = ((0 : Nat) : Int) from rfl, this]
      simp only [Option.bind_some, Int.toNat_natCast]
      rw [Int.natCast_add]
/-! ### The document's functions of layer 1 -/
theorem tdivN (a b : Nat) : Int.tdiv (a : Int) (b : Int) = ((a / b : Nat) : Int) := by rw [Int.tdiv_eq_ediv_of_nonneg (by omega)]; omega
theorem tmodN (a b : Nat) : Int.tmod (a : Int) (b : Int) = ((a % b : Nat) : Int) := by rw [Int.tmod_eq_emod_of_nonneg (by omega)]; omega
theorem tdiv8 (a : Nat) : Int.tdiv (a : Int) 8 = ((a / 8 : Nat) : Int) := tdivN a 8
theorem tmod8 (a : Nat) : Int.tmod (a : Int) 8 = ((a % 8 : Nat) : Int) := tmodN a 8
theorem bit_eq {l : List Int} (hb : Byt l) (n : Int) (k : Nat) (hk : k / 8 < l.length) (hk2 : k ≤ 9223372036854775807) : bits_bit.f l n (k : Int) = some (bat l k) := by
  unfold bits_bit.f
  have hx := byt_get hb (k / 8)
  rw [and7 _ (by omega) (by omega), show (k : Int) / 8 = ((k / 8 : Nat) : Int) by omega, show (k : Int) % 8 = ((k % 8 : Nat) : Int) by omega, if_pos (by omega), if_pos (by omega), if_pos (by omega), rd_nat, wrapid (by omega) (by omega), bit_of _ _ (by omega) hx.1 (by omega)]
  rfl
/-- The number of c bits from a on. -/
def getV (l : List Int) (a : Nat) : Nat → Int
  | 0 => 0
  | c + 1 => getV l a c + bat l (a + c) * 2 ^ c
theorem getV_range (l : List Int) (a c : Nat) : 0 ≤ getV l a c ∧ getV l a c < 2 ^ c := by
  induction c with
  | zero => simp [getV]
  | succ c ih =>
    rw [getV, Int.pow_succ]
    rcases bat_01 l (a + c) with e | e <;> rw [e] <;> omega
theorem orI64 {x : Int} {i : Nat} {b : Int} (hi : i ≤ 40) (hx0 : 0 ≤ x) (hx : x < 2 ^ i) (hb : b = 0 ∨ b = 1) : Go.bits .or .i64 x (shl .i64 b (i : Int)) = x + b * 2 ^ i := by
  have h40 := pow_le2 hi
  have e40 : (2 : Int) ^ 40 = 1099511627776 := by decide
  rw [e40] at h40
  have hsh : 0 ≤ b * 2 ^ i ∧ b * 2 ^ i ≤ 1099511627776 := by rcases hb with rfl | rfl <;> omega
  rw [shl_eq b i (by omega), wrapid (by omega) (by omega)]
  obtain ⟨c, rfl⟩ : ∃ c : Nat, x = (c : Int) := ⟨x.toNat, by omega⟩
  obtain ⟨d, rfl⟩ : ∃ d : Nat, b = (d : Int) := ⟨b.toNat, by omega⟩
  have hp : ((2 ^ i : Nat) : Int) = 2 ^ i := by simp
  have e1 : (d : Int) * 2 ^ i = ((d * 2 ^ i : Nat) : Int) := by rw [Int.natCast_mul, hp]
  rw [e1] at hsh ⊢
  rw [i64orN c _ (by omega) (by omega), orAdd c i d (by omega) (by omega)]
  omega
theorem getl_eq {l : List Int} {n : Nat} (h : Rgt l n) (hn : n ≤ 1125899906842624) (a : Nat) (c : Nat) (hc : c ≤ 32) (ha : a + c ≤ n) : ∀ (d k i : Nat), i + d = c → d < k →
    bits_Get.l0 k (a : Int) (getV l a i) (c : Int) (i : Int) l (n : Int) = some (getV l a c, 0) := by
  intro d
  induction d with
  | zero =>
    intro k i hi hk
    obtain ⟨k, rfl⟩ : ∃ m, k = m + 1 := ⟨k - 1, by omega⟩
    simp only [bits_Get.l0]
    rw [if_neg (by omega), show i = c by omega]
  | succ d ih =>
    intro k i hi hk
    obtain ⟨k, rfl⟩ : ∃ m, k = m + 1 := ⟨k - 1, by omega⟩
    have hl := h.2.1
    obtain ⟨g0, g1⟩ := getV_range l a i
    simp only [bits_Get.l0]
    rw [if_pos (by omega), show wrap64 ((a : Int) + (i : Int)) = ((a + i : Nat) : Int) by rw [wrapid (by omega) (by omega)]; omega, bit_eq h.1 _ _ (by omega) (by omega)]
    simp only [Option.bind_some]
    rw [if_pos (by omega), orI64 (by omega) g0 g1 (bat_01 l _), show wrap64 ((i : Int) + 1) = ((i + 1 : Nat) : Int) by rw [wrapid (by omega) (by omega)]; omega]
    exact ih k (i + 1) (by omega) (by omega)
def getS (l : List Int) (n a c : Int) : Int × Int :=
  if (okR l n && decide (0 ≤ c) && decide (c ≤ 32) && decide (0 ≤ a) && decide (a ≤ n)) = true then (if n - a < c then (0, 4) else (getV l a.toNat c.toNat, 0)) else (0, 2)
theorem get_eq {k : Nat} (hk : 40 ≤ k) {l : List Int} {n a c : Int} (hb : Byt l) (hl : l.length ≤ 140737488355328) (h0 : -9223372036854775808 ≤ n) (h1 : n ≤ 9223372036854775807) : bits_Get.f k l n a c = some (getS l n a c) := by
  obtain ⟨k, rfl⟩ : ∃ m, k = m + 1 := ⟨k - 1, by omega⟩
  unfold bits_Get.f getS
  rw [check_eq (by omega) hb hl h0 h1]
  simp only [Option.bind_some]
  cases hr : okR l n with
  | false => simp [bits_Get.j0]
  | true =>
    simp only [if_true, Bool.true_and]
    by_cases q1 : c < 0
    · simp [bits_Get.j0, q1, show ¬ (0 ≤ c) by omega]
    · by_cases q2 : c > 32
      · simp [bits_Get.j0, q1, q2, show ¬ (c ≤ 32) by omega]
      · by_cases q3 : a < 0
        · simp [bits_Get.j0, q1, q2, q3, show ¬ (0 ≤ a) by omega]
        · by_cases q4 : a > n
          · simp [bits_Get.j0, q1, q2, q3, q4, show ¬ (a ≤ n) by omega]
          · rw [if_neg q1, if_neg q2, if_neg q3]
            have e : decide (a > n) = false := by simpa using q4
            have e2 : (decide (0 ≤ c) && decide (c ≤ 32) && decide (0 ≤ a) && decide (a ≤ n)) = true := by simp only [Bool.and_eq_true, decide_eq_true_eq]; omega
            rw [e, e2]
            simp only [bits_Get.j0, Bool.false_eq_true, if_false, if_true]
            rw [wrapid (by omega) (by omega)]
            by_cases q5 : n - a < c
            · rw [if_pos q5, if_pos q5]
            · rw [if_neg q5, if_neg q5]
              obtain ⟨r1, r2⟩ := (okR_iff hb).1 hr
              obtain ⟨m, rfl⟩ : ∃ m : Nat, n = (m : Int) := ⟨n.toNat, by omega⟩
              obtain ⟨d, rfl⟩ : ∃ m : Nat, c = (m : Int) := ⟨c.toNat, by omega⟩
              obtain ⟨b, rfl⟩ : ∃ m : Nat, a = (m : Int) := ⟨a.toNat, by omega⟩
              rw [Int.toNat_natCast] at r2
              have := r2.2.1
              simp only [Int.toNat_natCast]
              exact getl_eq r2 (by omega) b d (by omega) (by omega) d k 0 (by omega) (by omega)
/-- The first j bits of a number, turned. -/
def tu (v : Int) : Nat → Int
  | 0 => 0
  | j + 1 => 2 * tu v j + vb v j
theorem tu_range (v : Int) (j : Nat) : 0 ≤ tu v j ∧ tu v j < 2 ^ j := by
  induction j with
  | zero => simp [tu]
  | succ j ih =>
    rw [tu, Int.pow_succ]
    rcases vb_01 v j with e | e <;> rw [e] <;> omega
theorem orTwo (x b : Int) (h0 : 0 ≤ x) (h1 : x ≤ 1099511627776) (hb : b = 0 ∨ b = 1) : Go.bits .or .i64 (wrap64 (x * 2)) b = 2 * x + b := by
  rw [wrapid (by omega) (by omega)]
  obtain ⟨c, rfl⟩ : ∃ c : Nat, x = (c : Int) := ⟨x.toNat, by omega⟩
  obtain ⟨d, rfl⟩ : ∃ d : Nat, b = (d : Int) := ⟨b.toNat, by omega⟩
  have h := Nat.two_pow_add_eq_or_of_lt (i := 1) (b := d) (by omega) c
  rw [show (c : Int) * 2 = ((2 ^ 1 * c : Nat) : Int) by omega, i64orN _ d (by omega) (by omega), ← h]
  omega
theorem turnl_eq (v : Int) (hv0 : 0 ≤ v) (hv1 : v ≤ 9223372036854775807) (c : Nat) (hc : c ≤ 16) : ∀ (d k i : Nat), i + d = c → d < k → bits_Turn.l0 k (v / 2 ^ i) (tu v i) (c : Int) (i : Int) = some (tu v c, 0) := by
  intro d
  induction d with
  | zero =>
    intro k i hi hk
    obtain ⟨k, rfl⟩ : ∃ m, k = m + 1 := ⟨k - 1, by omega⟩
    simp only [bits_Turn.l0]
    rw [if_neg (by omega), show i = c by omega]
  | succ d ih =>
    intro k i hi hk
    obtain ⟨k, rfl⟩ : ∃ m, k = m + 1 := ⟨k - 1, by omega⟩
    obtain ⟨t0, t1⟩ := tu_range v i
    have h40 := pow_le2 (show i ≤ 40 by omega)
    have e40 : (2 : Int) ^ 40 = 1099511627776 := by decide
    rw [e40] at h40
    have hq : v / 2 ^ i ≤ v := Int.ediv_le_self _ hv0
    have hr : 0 ≤ v / 2 ^ i := Int.ediv_nonneg hv0 (by have := pow_pos2 i; omega)
    simp only [bits_Turn.l0]
    rw [if_pos (by omega), and1 _ hr (by omega), show v / 2 ^ i % 2 = vb v i from rfl, orTwo _ _ t0 (by omega) (vb_01 v i), ← div_pow_succ, show wrap64 ((i : Int) + 1) = ((i + 1 : Nat) : Int) by rw [wrapid (by omega) (by omega)]; omega]
    exact ih k (i + 1) (by omega) (by omega)
def turnS (v n : Int) : Int × Int := if fitB v n 16 = true then (tu v n.toNat, 0) else (0, 2)
theorem turn_eq {k : Nat} (hk : 40 ≤ k) (v n : Int) (hv : v ≤ 9223372036854775807) : bits_Turn.f k v n = some (turnS v n) := by
  unfold bits_Turn.f turnS
  rw [fits_eq v n 16 (by omega)]
  simp only [Option.bind_some]
  cases hf : fitB v n 16 with
  | false => simp
  | true =>
    obtain ⟨f1, f2, f3, f4⟩ := fitB_iff.1 hf
    obtain ⟨d, rfl⟩ : ∃ m : Nat, n = (m : Int) := ⟨n.toNat, by omega⟩
    simp only [if_true, Int.toNat_natCast]
    have := turnl_eq v f3 hv d (by omega) d k 0 (by omega) (by omega)
    simpa [tu] using this
theorem right_eq {l : List Int} {n : Int} (hb : Byt l) (hl : l.length ≤ 140737488355328) (h0 : -9223372036854775808 ≤ n) (h1 : n ≤ 9223372036854775807) : valiseref01_Right.f l n = some (okR l n) := by
  unfold valiseref01_Right.f
  by_cases hn : n < 0
  · rw [if_pos hn]
    have : okR l n = false := by unfold okR; simp; omega
    rw [this]
  · rw [if_neg hn]
    obtain ⟨m, rfl⟩ : ∃ m : Nat, n = (m : Int) := ⟨n.toNat, by omega⟩
    rw [tdiv8, tmod8]
    have e1 : wrap64 (((m % 8 : Nat) : Int) + 7) = ((m % 8 + 7 : Nat) : Int) := by rw [wrapid (by omega) (by omega)]; omega
    rw [e1, tdiv8]
    have e2 : wrap64 (wrap64 ((m / 8 : Nat) : Int) + wrap64 (((m % 8 + 7) / 8 : Nat) : Int)) = (((m + 7) / 8 : Nat) : Int) := by
      rw [wrapid (x := ((m / 8 : Nat) : Int)) (by omega) (by omega), wrapid (x := (((m % 8 + 7) / 8 : Nat) : Int)) (by omega) (by omega), wrapid (by omega) (by omega)]; omega
    rw [e2]
    by_cases hlen : l.length = (m + 7) / 8
    · rw [if_pos (by omega)]
      by_cases h8 : m % 8 = 0
      · rw [if_pos (by omega)]
        have : okR l (m : Int) = true := by
          unfold okR
          rw [Int.toNat_natCast, List.getD_eq_getElem?_getD, List.getElem?_eq_none (by omega)]
          simp [hlen]
          exact pow_pos2 _
        rw [this]
      · rw [if_neg (by omega)]
        have e4 : wrap64 ((l.length : Int) - 1) = ((m / 8 : Nat) : Int) := by rw [wrapid (by omega) (by omega)]; omega
        rw [e4, if_pos (by omega), if_pos (by omega), if_pos (by omega), rd_nat, shr8_eq _ _ (by omega)]
        congr 1
        unfold okR
        rw [Int.toNat_natCast, Bool.eq_iff_iff]
        simp only [beq_iff_eq, Bool.and_eq_true, decide_eq_true_eq]
        rw [last_zero hb hlen h8]
        exact ⟨fun h => ⟨⟨by omega, hlen⟩, h⟩, fun h => h.2⟩
    · rw [if_neg (by omega)]
      have : okR l (m : Int) = false := by unfold okR; rw [Int.toNat_natCast]; simp only [Bool.and_eq_false_iff, decide_eq_false_iff_not]; exact .inl (.inr hlen)
      rw [this]
theorem copy_eq {l : List Int} {n : Int} (hl : l.length < 140737488355328) : valiseref01_Copy.f l n = some (l, n) := by
  unfold valiseref01_Copy.f
  simp only [Option.bind_some, List.length_nil, Nat.zero_add, List.nil_append]
  rw [if_pos hl]
theorem with_eq {l : List Int} {n : Nat} (h : Rgt l n) {b : Int} (hb : b = 0 ∨ b = 1) (hn : n ≤ 1125899906842616) : valiseref01_With.f l (n : Int) b = some (lay l n b, ((n + 1 : Nat) : Int)) := by
  have hl := h.2.1
  unfold valiseref01_With.f
  have hw : wrap64 ((n : Int) + 1) = ((n + 1 : Nat) : Int) := by rw [wrapid (by omega) (by omega)]; omega
  have hb2 : b % 256 = b := by omega
  rw [tmod8, tdiv8, hw, hb2, wrapid (x := ((n / 8 : Nat) : Int)) (by omega) (by omega)]
  unfold lay
  by_cases h8 : n % 8 = 0
  · rw [if_pos (by omega), if_pos h8, if_pos (by omega)]
  · rw [if_neg (by omega), if_neg h8, if_pos (by omega), if_pos (by omega), if_pos (by omega), rd_nat, Int.toNat_natCast, shl8_eq _ _ (by omega)]
    have hx := byt_get h.1 (n / 8)
    have h3 := h.2.2
    generalize l.getD (n / 8) 0 = x at h3 hx ⊢
    have : (x + b * 2 ^ (n % 8) % 256) % 256 = x + b * 2 ^ (n % 8) := by
      rcases pow8 (n % 8) (by omega) with ⟨e, _⟩ | ⟨e, _⟩ | ⟨e, _⟩ | ⟨e, _⟩ | ⟨e, _⟩ | ⟨e, _⟩ | ⟨e, _⟩ | ⟨e, _⟩ <;> rw [e] at h3 ⊢ <;> rcases hb with rfl | rfl <;> omega
    rw [this]
theorem same_eq (l : List Int) (n : Int) : valiseref01_Same.f l n l n = some true := by
  unfold valiseref01_Same.f
  rw [if_pos rfl]
  simp
theorem vb_tu (v : Int) : ∀ (j i : Nat), i < j → vb (tu v j) i = vb v (j - 1 - i)
  | j + 1, 0, _ => by
    rw [vb_zero, tu]
    have := vb_01 v j
    rw [show j + 1 - 1 - 0 = j by omega]
    omega
  | j + 1, i + 1, h => by
    rw [vb_half, tu, show (2 * tu v j + vb v j) / 2 = tu v j by have := vb_01 v j; omega, vb_tu v j i (by omega), show j + 1 - 1 - (i + 1) = j - 1 - i by omega]
theorem rank_lt (l : List Int) {p q : Nat} (hpq : p < q) (hq : q ≤ l.length) : (l.take p).count (l[p]?.getD 0) + 1 ≤ (l.take q).count (l[p]?.getD 0) := by
  have h1 : (l.take (p + 1)).count (l[p]?.getD 0) = (l.take p).count (l[p]?.getD 0) + 1 := by
    rw [take_succ_getD l (by omega), List.count_append, List.count_singleton, if_pos (beq_iff_eq.mpr rfl)]
  rw [← h1]
  have h2 : l.take (p + 1) = (l.take q).take (p + 1) := by rw [List.take_take, Nat.min_eq_left (by omega)]
  rw [h2]
  exact List.Sublist.count_le _ (List.take_sublist _ _)
theorem code_lt (l : List Int) {p : Nat} (hp : p < l.length) (h0 : l[p]?.getD 0 ≠ 0) : codeN l p + 1 ≤ firstC l (l[p]?.getD 0).toNat + l.count (l[p]?.getD 0) := by
  have := rank_lt l hp (Nat.le_refl _)
  rw [List.take_length] at this
  unfold codeN
  rw [if_neg h0]
  omega
theorem own4_eq {l : List Int} (h : l.length * 8 ≤ 140737488351232) : valiselaw04_own.f l = some l := by
  unfold valiselaw04_own.f
  rw [Option.bind_some, if_pos (by rw [List.length_nil]; omega), List.nil_append]
/-! ### A code's bits -/
theorem i64_bounds {a : Int} (h : (Lit.int .i64 a).wf = true) : -9223372036854775808 ≤ a ∧ a ≤ 9223372036854775807 := by
  have h2 : IntKind.i64.min ≤ a ∧ a ≤ IntKind.i64.max := by simpa [Lit.wf] using h
  have e1 : IntKind.i64.min = -9223372036854775808 := by decide +kernel
  have e2 : IntKind.i64.max = 9223372036854775807 := by decide +kernel
  omega
theorem byt_wf {l : List Int} (h : ∀ x ∈ l, (Lit.int .u8 x).wf = true) : Byt l := fun x hx => by
  have h2 : IntKind.u8.min ≤ x ∧ x ≤ IntKind.u8.max := by simpa [Lit.wf] using h x hx
  have e1 : IntKind.u8.min = 0 := by decide +kernel
  have e2 : IntKind.u8.max = 255 := by decide +kernel
  omega
def cX (l : List Int) (j : Nat) : Nat := firstC l j + if j = 0 then 0 else l.count (j : Int)
theorem cX_take (l : List Int) : ∀ j, j ≤ 15 → cX l j * 2 ^ (15 - j) + takeT l (15 - j) = takeT l 15
  | 0, _ => by unfold cX firstC; simp
  | j + 1, hj => by
    have ih := cX_take l j (by omega)
    have e : firstC l (j + 1) = cX l j * 2 := rfl
    have e1 : 15 - j = 15 - (j + 1) + 1 := by omega
    have e2 : takeT l (15 - j) = l.count ((j + 1 : Nat) : Int) * 2 ^ (15 - (j + 1)) + takeT l (15 - (j + 1)) := by
      rw [e1]
      show l.count ((15 - (15 - (j + 1)) : Nat) : Int) * 2 ^ (15 - (j + 1)) + takeT l (15 - (j + 1)) = _
      rw [show 15 - (15 - (j + 1)) = j + 1 by omega]
    have e3 : cX l (j + 1) = cX l j * 2 + l.count ((j + 1 : Nat) : Int) := by
      show firstC l (j + 1) + (if j + 1 = 0 then 0 else l.count ((j + 1 : Nat) : Int)) = _
      rw [if_neg (by omega), e]
    rw [e3, Nat.add_mul, ← ih, e2, e1, Nat.pow_succ, Nat.mul_assoc, Nat.mul_comm 2 (2 ^ _)]
    omega
theorem take_le {l : List Int} (hc : Hu.checkS l = 0 ∨ Hu.checkS l = 12) : takeT l 15 ≤ 32768 := by
  have := checkS_eq l (okl_of_check hc)
  by_cases h : takeT l 15 > 32768
  · rw [if_pos h] at this
    omega
  · omega
theorem code_bound {l : List Int} (hc : Hu.checkS l = 0 ∨ Hu.checkS l = 12) {i a : Nat} (hi : i < l.length) (e : l[i]?.getD 0 = (a : Int)) (h1 : 1 ≤ a) (ha : a ≤ 15) : codeN l i < 2 ^ a := by
  have h2 := code_lt l hi (by omega)
  rw [e, Int.toNat_natCast] at h2
  have h3 := cX_take l a ha
  have h4 := take_le hc
  have h5 : cX l a = firstC l a + l.count (a : Int) := by unfold cX; rw [if_neg (by omega)]
  have h6 : cX l a * 2 ^ (15 - a) ≤ 2 ^ a * 2 ^ (15 - a) := by
    rw [← Nat.pow_add, show a + (15 - a) = 15 by omega]
    omega
  have := Nat.le_of_mul_le_mul_right h6 (Nat.two_pow_pos _)
  omega
/-- A number's bits, the highest first. -/
def bitsD (v : Int) : Nat → List Int
  | 0 => []
  | d + 1 => vb v d :: bitsD v d
theorem bitsD_len (v : Int) : ∀ d, (bitsD v d).length = d
  | 0 => rfl
  | d + 1 => by rw [bitsD, List.length_cons, bitsD_len v d]
theorem bitsD_01 (v : Int) : ∀ d, ∀ b ∈ bitsD v d, b = 0 ∨ b = 1
  | 0, b, h => by cases h
  | d + 1, b, h => (List.mem_cons.1 h).elim (fun e => e ▸ vb_01 v d) (bitsD_01 v d b)
theorem bitsD_get (v : Int) : ∀ d j, j < d → (bitsD v d).getD j 0 = vb v (d - 1 - j)
  | 0, _, h => by omega
  | d + 1, 0, _ => by rw [bitsD, List.getD_cons_zero]; rfl
  | d + 1, j + 1, h => by rw [bitsD, List.getD_cons_succ, bitsD_get v d j (by omega), show d + 1 - 1 - (j + 1) = d - 1 - j by omega]
theorem bits_turned (v : Int) (c : Nat) : bitsV (tu v c) 0 c = bitsD v c := by
  apply List.ext_getElem (by rw [bitsV_len, bitsD_len])
  intro j h1 h2
  rw [bitsV_len] at h1
  have e1 := bitsV_get (tu v c) 0 c j h1
  have e2 := bitsD_get v c j h1
  rw [Nat.zero_add, vb_tu v c j h1] at e1
  rw [List.getD_eq_getElem?_getD, List.getElem?_eq_getElem (by rw [bitsV_len]; exact h1), Option.getD_some] at e1
  rw [List.getD_eq_getElem?_getD, List.getElem?_eq_getElem (by rw [bitsD_len]; exact h1), Option.getD_some] at e2
  rw [e1, e2]
/-- What huff.Put tells. -/
def hputS (l : List Int) (n : Int) (zs : List Int) (sym : Int) : List Int × Int × Int :=
  if OKL zs ∧ okR l n = true ∧ 0 ≤ sym ∧ sym < (zs.length : Int) then
    if Hu.checkS zs = 0 ∨ Hu.checkS zs = 12 then (if rd zs sym = 0 then ([], 0, 13) else (layA l n.toNat (bitsD ((codeN zs sym.toNat : Nat) : Int) (rd zs sym).toNat), n + rd zs sym, 0)) else ([], 0, Hu.checkS zs) else ([], 0, 2)
theorem hput_eq {k : Nat} (hk : 40 ≤ k) {l : List Int} {n : Int} (zs : List Int) (sym : Int) (hb : Byt l) (hl : l.length ≤ 140737488351232) (h0 : -9223372036854775808 ≤ n) (h1 : n ≤ 9223372036854775807) : huff_Put.f k l n zs sym = some (hputS l n zs sym) := by
  unfold huff_Put.f hputS
  by_cases h : OKL zs
  · rw [if_neg (by rw [(counted_ok zs).2 h]; decide), check_eq (by omega) hb (by omega) h0 h1, Option.bind_some]
    by_cases hr : okR l n = true
    · rw [if_pos (c := okR l n = true) hr, if_pos rfl]
      by_cases s0 : sym < 0
      · rw [if_pos s0, if_neg (by omega)]
      · rw [if_neg s0]
        by_cases s1 : (zs.length : Int) ≤ sym
        · rw [if_pos s1, if_neg (by omega)]
        · rw [if_neg s1, if_pos (c := OKL zs ∧ okR l n = true ∧ 0 ≤ sym ∧ sym < (zs.length : Int)) ⟨h, hr, by omega, by omega⟩, codesS_eq]
          by_cases hc : Hu.checkS zs = 0 ∨ Hu.checkS zs = 12
          · rw [if_pos hc, if_pos hc]
            dsimp only
            rw [if_pos rfl]
            by_cases y0 : rd zs sym = 0
            · rw [if_pos y0, if_pos y0]
            · obtain ⟨s, rfl⟩ : ∃ s : Nat, sym = (s : Int) := ⟨sym.toNat, by omega⟩
              have hs : s < zs.length := by omega
              have hm := h.2.2 _ (mem_of_getD hs)
              rw [← rdN] at hm
              obtain ⟨a, ea⟩ : ∃ a : Nat, rd zs (s : Int) = (a : Int) := ⟨(rd zs (s : Int)).toNat, by omega⟩
              have hcb := code_bound hc hs ((rdN zs s).symm.trans ea) (by omega) (show a ≤ 15 by omega)
              have hpw : (2 : Nat) ^ a ≤ 2 ^ 15 := Nat.pow_le_pow_right (by omega) (by omega)
              have hcz : ((codeN zs s : Nat) : Int) < 2 ^ a := by exact_mod_cast hcb
              rw [if_neg y0, if_neg y0, if_pos (by rw [codesV_len]; omega), codesV_rd zs hs, ea, turn_eq hk _ _ (by omega)]
              have hf : fitB ((codeN zs s : Nat) : Int) (a : Int) 16 = true := fitB_iff.2 ⟨by omega, by omega, by omega, by rw [Int.toNat_natCast]; exact hcz⟩
              have ht : turnS ((codeN zs s : Nat) : Int) (a : Int) = (tu ((codeN zs s : Nat) : Int) a, 0) := by unfold turnS; rw [if_pos hf, Int.toNat_natCast]
              have tr := tu_range ((codeN zs s : Nat) : Int) a
              have hpz : (2 : Int) ^ a ≤ 2 ^ 15 := by exact_mod_cast hpw
              have hf2 : fitB (tu ((codeN zs s : Nat) : Int) a) (a : Int) 32 = true := fitB_iff.2 ⟨by omega, by omega, tr.1, by rw [Int.toNat_natCast]; exact tr.2⟩
              rw [ht, Option.bind_some]
              dsimp only
              rw [put_eq hk hb (by omega) h0 h1 (by have := tr.2; omega)]
              unfold putS
              rw [hr, hf2, Bool.and_self, if_pos rfl, Int.toNat_natCast, Int.toNat_natCast, bits_turned]
          · rw [if_neg hc, if_neg hc]
            dsimp only
            rw [if_neg (by omega)]
    · rw [if_neg (c := okR l n = true) hr, if_neg (by omega), if_neg (fun hh => hr hh.2.1)]
  · rw [if_pos (by cases hh : (Hu.countedS zs).2 with | false => rfl | true => exact absurd ((counted_ok zs).1 hh) h), if_neg (fun hh => h hh.1)]
theorem refPut_l0 (cs : List Int) (sym : Nat) (hs : sym < cs.length) (v : Int) (hv : rd cs (sym : Int) = v) (hv0 : 0 ≤ v) (hv1 : v ≤ 9223372036854775807) : ∀ (d k : Nat) {l : List Int} {n : Nat}, d ≤ 60 → d < k → Rgt l n → n + d ≤ 1125899906842616 →
    valiseref04_Put.l0 k (sym : Int) cs ((d : Int) - 1) l (n : Int) = some (layA l n (bitsD v d), ((n + d : Nat) : Int), 0)
  | 0, k, l, n, _, hk, h, hn => by
    obtain ⟨k, rfl⟩ : ∃ m, k = m + 1 := ⟨k - 1, by omega⟩
    rw [valiseref04_Put.l0, if_neg (by omega)]
    rfl
  | d + 1, k, l, n, hd, hk, h, hn => by
    obtain ⟨k, rfl⟩ : ∃ m, k = m + 1 := ⟨k - 1, by omega⟩
    have e : ((d + 1 : Nat) : Int) - 1 = (d : Int) := by omega
    rw [e, valiseref04_Put.l0, if_pos (by omega), if_pos (by omega), if_pos (by omega), if_pos (by omega), hv, bit_of v d (by omega) hv0 hv1, with_eq h (vb_01 v d) (by omega), Option.bind_some]
    dsimp only
    rw [wrapid (by omega) (by omega), refPut_l0 cs sym hs v hv hv0 hv1 d k (by omega) (by omega) (lay_rgt h (vb_01 v d)) (by omega), bitsD, layA, show n + 1 + d = n + (d + 1) by omega]
theorem refHPut_eq {l : List Int} {n : Int} (zs : List Int) (sym : Int) (hb : Byt l) (hl : l.length ≤ 140737488351232) (h0 : -9223372036854775808 ≤ n) (h1 : n ≤ 9223372036854775807) : Ev (fun k => valiseref04_Put.f k l n zs sym) (hputS l n zs sym) := by
  obtain ⟨kc, hkc⟩ := refCodes_eq zs
  refine ⟨kc + zs.length + 100, fun k hk => ?_⟩
  have hcod : ∀ m, kc ≤ m → valiseref04_Codes.f m zs = some (Hu.codesS zs) := fun m hm => hkc m hm
  obtain ⟨k, rfl⟩ : ∃ m, k = m + 1 := ⟨k - 1, by omega⟩
  show valiseref04_Put.f (k + 1) l n zs sym = _
  unfold valiseref04_Put.f hputS
  rw [right_eq hb (by omega) h0 h1, Option.bind_some]
  have jt : valiseref04_Put.j0 (k + 1) zs sym true l n = some ([], 0, 2) := by rw [valiseref04_Put.j0, if_pos rfl]
  by_cases hr : okR l n = true
  · rw [if_pos hr, lengths_eq zs (by omega), Option.bind_some]
    by_cases h : OKL zs
    · rw [if_pos (decide_eq_true h)]
      by_cases s0 : sym < 0
      · rw [if_pos s0, jt, if_neg (by omega)]
      · rw [if_neg s0]
        by_cases s1 : sym ≥ (zs.length : Int)
        · rw [decide_eq_true s1, jt, if_neg (by omega)]
        · rw [decide_eq_false s1, if_pos (c := OKL zs ∧ okR l n = true ∧ 0 ≤ sym ∧ sym < (zs.length : Int)) ⟨h, hr, by omega, by omega⟩, valiseref04_Put.j0, if_neg (by decide), hcod k (by omega), Option.bind_some, codesS_eq]
          by_cases hc : Hu.checkS zs = 0 ∨ Hu.checkS zs = 12
          · rw [if_pos hc, if_pos hc]
            dsimp only
            rw [if_pos rfl, if_pos (by omega), if_pos (by omega)]
            by_cases y0 : rd zs sym = 0
            · rw [if_pos y0, if_pos y0]
            · obtain ⟨s, rfl⟩ : ∃ s : Nat, sym = (s : Int) := ⟨sym.toNat, by omega⟩
              have hs : s < zs.length := by omega
              have hm := h.2.2 _ (mem_of_getD hs)
              rw [← rdN] at hm
              obtain ⟨a, ea⟩ : ∃ a : Nat, rd zs (s : Int) = (a : Int) := ⟨(rd zs (s : Int)).toNat, by omega⟩
              have hcb := code_bound hc hs ((rdN zs s).symm.trans ea) (by omega) (show a ≤ 15 by omega)
              have hpw : (2 : Nat) ^ a ≤ 2 ^ 15 := Nat.pow_le_pow_right (by omega) (by omega)
              obtain ⟨r1, r2⟩ := (okR_iff hb).1 hr
              obtain ⟨m, rfl⟩ : ∃ m : Nat, n = (m : Int) := ⟨n.toNat, by omega⟩
              rw [Int.toNat_natCast] at r2
              have hmm := r2.2.1
              rw [if_neg y0, if_neg y0, copy_eq (by omega), Option.bind_some, ea]
              dsimp only
              rw [wrapid (by omega) (by omega), refPut_l0 (codesV zs) s (by rw [codesV_len]; omega) _ (codesV_rd zs hs) (by omega) (by omega) a k (by omega) (by omega) r2 (by omega), Int.toNat_natCast, Int.toNat_natCast, Int.toNat_natCast]
              rw [show ((m + a : Nat) : Int) = (m : Int) + (a : Int) by omega]
          · rw [if_neg hc, if_neg hc]
            dsimp only
            rw [if_neg (by omega)]
    · rw [if_neg (by rw [decide_eq_true_eq]; exact h), jt, if_neg (fun hh => h hh.1)]
  · rw [if_neg hr, jt, if_neg (fun hh => hr hh.2.1)]
theorem lent_eq {l : List Int} (n : Int) (h : l.length ≤ 140737488351232) : valiselaw04_lent.f l n = some (l, n) := by
  unfold valiselaw04_lent.f
  rw [Option.bind_some, if_pos (by rw [List.length_nil]; omega), List.nil_append]
theorem HuffPuts.pure (l : List Int) (n : Int) (zs : List Int) (sym : Int) (hl : l.length ≤ 140737488351232) (hb : Byt l) (h0 : -9223372036854775808 ≤ n) (h1 : n ≤ 9223372036854775807) (hz : zs.length * 8 ≤ 140737488351232) : ∃ k, valiselaw04_HuffPuts.f k l n zs sym = some true := by
  obtain ⟨k, hk⟩ := refHPut_eq zs sym hb hl h0 h1
  refine ⟨k + 100, ?_⟩
  have e : valiseref04_Put.f (k + 100) l n zs sym = some (hputS l n zs sym) := hk (k + 100) (by omega)
  unfold valiselaw04_HuffPuts.f valiselaw04_lives.f
  rw [lent_eq n hl]
  simp only [Option.bind_some]
  rw [own4_eq hz]
  simp only [Option.bind_some]
  rw [hput_eq (by omega) zs sym hb hl h0 h1, e]
  simp only [Option.bind_some]
  rw [same_eq, same_eq]
  simp
theorem HuffPuts.walk (A0_0 : Option Addr) (c0_0 : Nat) (l0_0 : List Int) (a0_1 : Int) (A1 : Option Addr) (c1 : Nat) (l1 : List Int) (a2 : Int) (w : World) (r0_0 : Kd.C (Kd.int .u8) w A0_0 l0_0.length l0_0) (q0_0 : l0_0.length ≤ c0_0) (y0_0 : l0_0.length * 1 ≤ 140737488351232) (w0_0 : ∀ x ∈ l0_0, (Lit.int .u8 x).wf = true) (w0_1 : (Lit.int .i64 a0_1).wf = true) (r1 : Kd.C (Kd.int .i64) w A1 l1.length l1) (q1 : l1.length ≤ c1) (y1 : l1.length * 8 ≤ 140737488351232) (w1 : ∀ x ∈ l1, (Lit.int .i64 x).wf = true) (w2 : (Lit.int .i64 a2).wf = true) :
    Calls Try.prog 4 #[.agg #[.slice A0_0 l0_0.length c0_0, .int .i64 a0_1], .slice A1 l1.length c1, .int .i64 a2] w fun e w' => e = .returned (.bool true) ∧ Below w.heap.size w w' := by
  obtain ⟨h0, h1⟩ := i64_bounds w0_1
  obtain ⟨k, h⟩ := HuffPuts.pure l0_0 a0_1 l1 a2 (by omega) (byt_wf w0_0) h0 h1 y1
  exact valiselaw04_HuffPuts.calls k A0_0 c0_0 l0_0 a0_1 A1 c1 l1 a2 true w r0_0 q0_0 r1 q1 h rfl
end Go.Proofs.Ythcndpdfcippiaa.Pr
