import Derived.Test.YtggmffmajgnhkaaPr0
namespace Go.Proofs.Ytggmffmajgnhkaa.Pr
open Go.RowKit Go.Proofs.YtggmffmajgnhkaaW.PrintWords Go.Proofs.YtggmffmajgnhkaaW.PrintLast Go.Proofs.YtggmffmajgnhkaaW.PrintMore
set_option linter.unusedVariables false
set_option linter.unusedSimpArgs false
set_option maxRecDepth 100000
/-! ### Numbers and their bits -/
theorem pow8 (j : Nat) (h : j < 8) : (2 : Int) ^ j = 1 ∧ j = 0 ∨ (2 : Int) ^ j = 2 ∧ j = 1 ∨ (2 : Int) ^ j = 4 ∧ j = 2 ∨ (2 : Int) ^ j = 8 ∧ j = 3 ∨ (2 : Int) ^ j = 16 ∧ j = 4 ∨ (2 : Int) ^ j = 32 ∧ j = 5 ∨ (2 : Int) ^ j = 64 ∧ j = 6 ∨ (2 : Int) ^ j = 128 ∧ j = 7 := by
  match j, h with
  | 0, _ => simp
  | 1, _ => simp
  | 2, _ => simp
  | 3, _ => simp
  | 4, _ => simp
  | 5, _ => simp
  | 6, _ => simp
  | 7, _ => simp
theorem wrapid {x : Int} (h0 : -9223372036854775808 ≤ x) (h1 : x ≤ 9223372036854775807) : wrap64 x = x := by unfold wrap64; omega
theorem i64of (a : Nat) (ha : a < 9223372036854775808) : (BitVec.ofInt 64 (a : Int)).toNat = a := by
  rw [BitVec.ofInt_natCast, BitVec.toNat_ofNat]; exact Nat.mod_eq_of_lt (by omega)
theorem i64andN (a b : Nat) (ha : a < 9223372036854775808) (hb : b < 9223372036854775808) : Go.bits .and .i64 (a : Int) (b : Int) = ((a &&& b : Nat) : Int) := by
  have hx : a &&& b < 2 ^ 63 := Nat.and_lt_two_pow _ (by omega)
  show IntKind.i64.wrap ((BitVec.ofInt 64 (a : Int) &&& BitVec.ofInt 64 (b : Int)).toNat : Int) = _
  rw [BitVec.toNat_and, i64of a ha, i64of b hb, IntKind.wrap_i64]
  omega
theorem i64orN (a b : Nat) (ha : a < 9223372036854775808) (hb : b < 9223372036854775808) : Go.bits .or .i64 (a : Int) (b : Int) = ((a ||| b : Nat) : Int) := by
  have hx : a ||| b < 2 ^ 63 := Nat.or_lt_two_pow (by omega) (by omega)
  show IntKind.i64.wrap ((BitVec.ofInt 64 (a : Int) ||| BitVec.ofInt 64 (b : Int)).toNat : Int) = _
  rw [BitVec.toNat_or, i64of a ha, i64of b hb, IntKind.wrap_i64]
  omega
theorem and7 (n : Int) (h0 : 0 ≤ n) (h1 : n ≤ 9223372036854775807) : Go.bits .and .i64 n 7 = n % 8 := by
  have h := i64andN n.toNat 7 (by omega) (by omega)
  rw [show ((n.toNat : Nat) : Int) = n by omega] at h
  rw [show (7 : Int) = ((7 : Nat) : Int) from rfl, h, Nat.and_two_pow_sub_one_eq_mod n.toNat 3]
  omega
theorem and1 (n : Int) (h0 : 0 ≤ n) (h1 : n ≤ 9223372036854775807) : Go.bits .and .i64 n 1 = n % 2 := by
  have h := i64andN n.toNat 1 (by omega) (by omega)
  rw [show ((n.toNat : Nat) : Int) = n by omega] at h
  rw [show (1 : Int) = ((1 : Nat) : Int) from rfl, h, Nat.and_two_pow_sub_one_eq_mod n.toNat 1]
  omega
/-- or of a number below 2^i and b at the place i: their sum. -/
theorem orAdd (x i b : Nat) (hx : x < 2 ^ i) (hb : b = 0 ∨ b = 1) : x ||| (b * 2 ^ i) = x + b * 2 ^ i := by
  rcases hb with rfl | rfl
  · simp
  · have h := Nat.two_pow_add_eq_or_of_lt hx 1
    rw [Nat.mul_one] at h
    rw [Nat.one_mul, Nat.or_comm, ← h, Nat.add_comm]
theorem shr_eq (x : Int) (i : Nat) (hi : i ≤ 64) : shr .i64 x (i : Int) = x / 2 ^ i := by
  unfold shr
  rw [Int.toNat_natCast, Nat.min_eq_left (by simpa [IntKind.bits] using hi)]
theorem shr8_eq (x : Int) (i : Nat) (hi : i ≤ 8) : shr .u8 x (i : Int) = x / 2 ^ i := by
  unfold shr
  rw [Int.toNat_natCast, Nat.min_eq_left (by simpa [IntKind.bits] using hi)]
theorem shl_eq (x : Int) (i : Nat) (hi : i ≤ 64) : shl .i64 x (i : Int) = wrap64 (x * 2 ^ i) := by
  unfold shl
  rw [Int.toNat_natCast, Nat.min_eq_left (by simpa [IntKind.bits] using hi), i64_w]
theorem shl8_eq (x : Int) (i : Nat) (hi : i ≤ 8) : shl .u8 x (i : Int) = (x * 2 ^ i) % 256 := by
  unfold shl
  rw [Int.toNat_natCast, Nat.min_eq_left (by simpa [IntKind.bits] using hi), IntKind.wrap_u8]
/-- The bit i of a number. -/
def vb (v : Int) (i : Nat) : Int := v / 2 ^ i % 2
theorem vb_01 (v : Int) (i : Nat) : vb v i = 0 ∨ vb v i = 1 := by unfold vb; omega
theorem vb_zero (v : Int) : vb v 0 = v % 2 := by unfold vb; simp
theorem div_pow_succ (v : Int) (i : Nat) : v / 2 ^ (i + 1) = v / 2 ^ i / 2 := by rw [Int.pow_succ, ← Int.ediv_ediv_of_nonneg (Int.le_of_lt (Int.pow_pos (by omega)))]
theorem vb_step (v : Int) (i : Nat) : v / 2 ^ i = 2 * (v / 2 ^ (i + 1)) + vb v i := by rw [div_pow_succ]; unfold vb; omega
theorem vb_half (v : Int) (i : Nat) : vb v (i + 1) = vb (v / 2) i := by
  unfold vb
  rw [Int.pow_succ, Int.mul_comm, ← Int.ediv_ediv_of_nonneg (by omega)]
theorem div_small {v : Int} {n : Nat} (h0 : 0 ≤ v) (h : v < 2 ^ n) : v / 2 ^ n = 0 := Int.ediv_eq_zero_of_lt h0 h
theorem pow_pos2 (n : Nat) : (0 : Int) < 2 ^ n := Int.pow_pos (by omega)
theorem pow_le2 {m n : Nat} (h : m ≤ n) : (2 : Int) ^ m ≤ 2 ^ n := by
  have := Nat.pow_le_pow_right (n := 2) (by omega) h
  have h2 : ((2 ^ m : Nat) : Int) ≤ ((2 ^ n : Nat) : Int) := by omega
  simpa using h2
theorem lt_of_div_zero {v : Int} {n : Nat} (h : v / 2 ^ n = 0) : v < 2 ^ n := by
  have := Int.lt_mul_ediv_self_add (x := v) (pow_pos2 n)
  rw [h] at this
  omega
/-- shift and mask: the bit. -/
theorem bit_of (v : Int) (i : Nat) (hi : i ≤ 64) (h0 : 0 ≤ v) (h1 : v ≤ 9223372036854775807) : Go.bits .and .i64 (shr .i64 v (i : Int)) 1 = vb v i := by
  rw [shr_eq v i hi]
  have hp := pow_pos2 i
  have hq : v / 2 ^ i ≤ v := Int.ediv_le_self _ h0
  have hr : 0 ≤ v / 2 ^ i := Int.ediv_nonneg h0 (by omega)
  rw [and1 _ hr (by omega)]
  rfl
/-! ### Rows: lists of bytes and how many bits they have -/
def Byt (l : List Int) : Prop := ∀ x ∈ l, 0 ≤ x ∧ x < 256
theorem byt_nil : Byt [] := fun x h => by cases h
theorem byt_get {l : List Int} (h : Byt l) (i : Nat) : 0 ≤ l.getD i 0 ∧ l.getD i 0 < 256 := by
  rw [List.getD_eq_getElem?_getD]
  by_cases hi : i < l.length
  · rw [List.getElem?_eq_getElem hi]
    exact h _ (List.getElem_mem hi)
  · rw [List.getElem?_eq_none (by omega)]
    simp
theorem byt_app {l m : List Int} (h : Byt l) (h2 : Byt m) : Byt (l ++ m) := fun x hx => by
  rcases List.mem_append.1 hx with hx | hx
  · exact h x hx
  · exact h2 x hx
theorem byt_set {l : List Int} (h : Byt l) (i : Nat) {x : Int} (hx : 0 ≤ x ∧ x < 256) : Byt (l.set i x) := fun y hy => by
  rcases List.mem_or_eq_of_mem_set hy with hy | rfl
  · exact h y hy
  · exact hx
theorem rd_nat (l : List Int) (i : Nat) : rd l (i : Int) = l.getD i 0 := by unfold rd; rw [Int.toNat_natCast]
def bat (l : List Int) (k : Nat) : Int := l.getD (k / 8) 0 / 2 ^ (k % 8) % 2
theorem bat_01 (l : List Int) (k : Nat) : bat l k = 0 ∨ bat l k = 1 := by unfold bat; omega
/-- The row is right: its bytes are as many as its bits need, the bits of the last byte behind the row are 0. -/
def Rgt (l : List Int) (n : Nat) : Prop := Byt l ∧ l.length = (n + 7) / 8 ∧ l.getD (n / 8) 0 < 2 ^ (n % 8)
theorem rgt_nil : Rgt [] 0 := ⟨byt_nil, rfl, by simp⟩
theorem rgt_whole {l : List Int} (h : Byt l) : Rgt l (8 * l.length) := by
  refine ⟨h, by omega, ?_⟩
  rw [show 8 * l.length / 8 = l.length by omega, show 8 * l.length % 8 = 0 by omega, List.getD_eq_getElem?_getD, List.getElem?_eq_none (by omega)]
  simp
def lay (l : List Int) (n : Nat) (b : Int) : List Int := if n % 8 = 0 then l ++ [b] else l.set (n / 8) (l.getD (n / 8) 0 + b * 2 ^ (n % 8))
theorem getD_set {l : List Int} {i : Nat} (hi : i < l.length) (x : Int) (j : Nat) : (l.set i x).getD j 0 = if j = i then x else l.getD j 0 := by
  rw [List.getD_eq_getElem?_getD, List.getD_eq_getElem?_getD]
  by_cases h : j = i
  · subst h
    rw [List.getElem?_set_self hi, if_pos rfl]; rfl
  · rw [List.getElem?_set_ne (Ne.symm h), if_neg h]
theorem getD_snoc (l : List Int) (x : Int) (j : Nat) : (l ++ [x]).getD j 0 = if j = l.length then x else l.getD j 0 := by
  rw [List.getD_eq_getElem?_getD, List.getD_eq_getElem?_getD]
  by_cases h : j < l.length
  · rw [List.getElem?_append_left h, if_neg (by omega)]
  · rw [List.getElem?_append_right (by omega)]
    by_cases h2 : j = l.length
    · subst h2
      simp
    · rw [if_neg h2, List.getElem?_eq_none (l := l) (by omega)]
      obtain ⟨d, hd⟩ : ∃ d, j - l.length = d + 1 := ⟨j - l.length - 1, by omega⟩
      rw [hd]
      simp
theorem lay_len {l : List Int} {n : Nat} (h : Rgt l n) (b : Int) : (lay l n b).length = (n + 1 + 7) / 8 := by
  have := h.2.1
  unfold lay
  by_cases h8 : n % 8 = 0
  · rw [if_pos h8, List.length_append, List.length_cons, List.length_nil]; omega
  · rw [if_neg h8, List.length_set]; omega
theorem lay_getD {l : List Int} {n : Nat} (h : Rgt l n) (b : Int) (j : Nat) : (lay l n b).getD j 0 = if j = n / 8 then l.getD (n / 8) 0 + b * 2 ^ (n % 8) else l.getD j 0 := by
  have hl := h.2.1
  unfold lay
  by_cases h8 : n % 8 = 0
  · rw [if_pos h8, getD_snoc]
    by_cases hj : j = l.length
    · rw [if_pos hj, if_pos (by omega), h8]
      rw [List.getD_eq_getElem?_getD, List.getElem?_eq_none (by omega)]
      simp
    · rw [if_neg hj, if_neg (by omega)]
  · rw [if_neg h8, getD_set (by omega)]
theorem lay_rgt {l : List Int} {n : Nat} (h : Rgt l n) {b : Int} (hb : b = 0 ∨ b = 1) : Rgt (lay l n b) (n + 1) := by
  obtain ⟨h1, h2, h3⟩ := h
  have hx := byt_get h1 (n / 8)
  have hr : 0 ≤ l.getD (n / 8) 0 + b * 2 ^ (n % 8) ∧ l.getD (n / 8) 0 + b * 2 ^ (n % 8) < 256 := by
    rcases pow8 (n % 8) (by omega) with ⟨e, _⟩ | ⟨e, _⟩ | ⟨e, _⟩ | ⟨e, _⟩ | ⟨e, _⟩ | ⟨e, _⟩ | ⟨e, _⟩ | ⟨e, _⟩ <;> rw [e] at h3 ⊢ <;> rcases hb with rfl | rfl <;> omega
  refine ⟨?_, lay_len ⟨h1, h2, h3⟩ b, ?_⟩
  · unfold lay
    by_cases h8 : n % 8 = 0
    · rw [if_pos h8]
      refine byt_app h1 (fun x hx => ?_)
      rw [List.mem_singleton] at hx
      subst hx
      omega
    · rw [if_neg h8]
      exact byt_set h1 _ hr
  · rw [lay_getD ⟨h1, h2, h3⟩]
    by_cases hj : (n + 1) / 8 = n / 8
    · rw [if_pos hj]
      generalize l.getD (n / 8) 0 = x at h3 hx hr ⊢
      rcases pow8 (n % 8) (by omega) with ⟨e, e2⟩ | ⟨e, e2⟩ | ⟨e, e2⟩ | ⟨e, e2⟩ | ⟨e, e2⟩ | ⟨e, e2⟩ | ⟨e, e2⟩ | ⟨e, e2⟩ <;> rw [e] at h3 ⊢
      · rw [show (n + 1) % 8 = 1 by omega]; rcases hb with rfl | rfl <;> simp <;> omega
      · rw [show (n + 1) % 8 = 2 by omega]; rcases hb with rfl | rfl <;> simp <;> omega
      · rw [show (n + 1) % 8 = 3 by omega]; rcases hb with rfl | rfl <;> simp <;> omega
      · rw [show (n + 1) % 8 = 4 by omega]; rcases hb with rfl | rfl <;> simp <;> omega
      · rw [show (n + 1) % 8 = 5 by omega]; rcases hb with rfl | rfl <;> simp <;> omega
      · rw [show (n + 1) % 8 = 6 by omega]; rcases hb with rfl | rfl <;> simp <;> omega
      · rw [show (n + 1) % 8 = 7 by omega]; rcases hb with rfl | rfl <;> simp <;> omega
      · omega
    · rw [if_neg hj, List.getD_eq_getElem?_getD, List.getElem?_eq_none (by omega)]
      exact pow_pos2 _
theorem lay_bat {l : List Int} {n : Nat} (h : Rgt l n) {b : Int} (hb : b = 0 ∨ b = 1) (k : Nat) : bat (lay l n b) k = if k = n then b else bat l k := by
  unfold bat
  rw [lay_getD h]
  by_cases hj : k / 8 = n / 8
  · rw [if_pos hj, hj]
    have h3 := h.2.2
    have hx := byt_get h.1 (n / 8)
    generalize l.getD (n / 8) 0 = x at h3 hx ⊢
    by_cases hk : k = n
    · rw [if_pos hk, hk]
      rcases pow8 (n % 8) (by omega) with ⟨e, _⟩ | ⟨e, _⟩ | ⟨e, _⟩ | ⟨e, _⟩ | ⟨e, _⟩ | ⟨e, _⟩ | ⟨e, _⟩ | ⟨e, _⟩ <;> rw [e] at h3 ⊢ <;> rcases hb with rfl | rfl <;> omega
    · rw [if_neg hk]
      have hne : k % 8 ≠ n % 8 := by omega
      rcases pow8 (n % 8) (by omega) with ⟨e, e2⟩ | ⟨e, e2⟩ | ⟨e, e2⟩ | ⟨e, e2⟩ | ⟨e, e2⟩ | ⟨e, e2⟩ | ⟨e, e2⟩ | ⟨e, e2⟩ <;> rw [e] at h3 ⊢ <;> rcases pow8 (k % 8) (by omega) with ⟨f, f2⟩ | ⟨f, f2⟩ | ⟨f, f2⟩ | ⟨f, f2⟩ | ⟨f, f2⟩ | ⟨f, f2⟩ | ⟨f, f2⟩ | ⟨f, f2⟩ <;> rw [f] <;> rcases hb with rfl | rfl <;> omega
  · rw [if_neg hj, if_neg (by omega)]
theorem bat_beyond {l : List Int} {n : Nat} (h : Rgt l n) {k : Nat} (hk : n ≤ k) : bat l k = 0 := by
  unfold bat
  have hx := byt_get h.1 (k / 8)
  by_cases hj : k / 8 = n / 8
  · have h3 := h.2.2
    rw [← hj] at h3
    generalize l.getD (k / 8) 0 = x at h3 hx ⊢
    rcases pow8 (n % 8) (by omega) with ⟨e, e2⟩ | ⟨e, e2⟩ | ⟨e, e2⟩ | ⟨e, e2⟩ | ⟨e, e2⟩ | ⟨e, e2⟩ | ⟨e, e2⟩ | ⟨e, e2⟩ <;> rw [e] at h3 <;> rcases pow8 (k % 8) (by omega) with ⟨f, f2⟩ | ⟨f, f2⟩ | ⟨f, f2⟩ | ⟨f, f2⟩ | ⟨f, f2⟩ | ⟨f, f2⟩ | ⟨f, f2⟩ | ⟨f, f2⟩ <;> rw [f] <;> omega
  · have hl := h.2.1
    rw [List.getD_eq_getElem?_getD, List.getElem?_eq_none (by omega)]
    simp
theorem rgt_ext {l m : List Int} {n : Nat} (h : Rgt l n) (h' : Rgt m n) (hb : ∀ k, k < n → bat l k = bat m k) : l = m := by
  have hall : ∀ k, bat l k = bat m k := fun k => by
    rcases Nat.lt_or_ge k n with hk | hk
    · exact hb k hk
    · rw [bat_beyond h hk, bat_beyond h' hk]
  refine List.ext_getElem (by rw [h.2.1, h'.2.1]) (fun i h1 h2 => ?_)
  have e1 : l.getD i 0 = l[i] := by rw [List.getD_eq_getElem?_getD, List.getElem?_eq_getElem h1]; rfl
  have e2 : m.getD i 0 = m[i] := by rw [List.getD_eq_getElem?_getD, List.getElem?_eq_getElem h2]; rfl
  have b1 := byt_get h.1 i
  have b2 := byt_get h'.1 i
  rw [← e1, ← e2]
  have g : ∀ j : Nat, j < 8 → l.getD i 0 / 2 ^ j % 2 = m.getD i 0 / 2 ^ j % 2 := fun j hj => by
    have := hall (8 * i + j)
    unfold bat at this
    rwa [show (8 * i + j) / 8 = i by omega, show (8 * i + j) % 8 = j by omega] at this
  have g0 := g 0 (by omega)
  have g1 := g 1 (by omega)
  have g2 := g 2 (by omega)
  have g3 := g 3 (by omega)
  have g4 := g 4 (by omega)
  have g5 := g 5 (by omega)
  have g6 := g 6 (by omega)
  have g7 := g 7 (by omega)
  generalize l.getD i 0 = x at *
  generalize m.getD i 0 = y at *
  simp at g0 g1 g2 g3 g4 g5 g6 g7
  omega
/-- Many bits, one by one. -/
def layA : List Int → Nat → List Int → List Int
  | l, _, [] => l
  | l, n, b :: bs => layA (lay l n b) (n + 1) bs
theorem layA_app (l : List Int) (n : Nat) (bs cs : List Int) : layA l n (bs ++ cs) = layA (layA l n bs) (n + bs.length) cs := by
  induction bs generalizing l n with
  | nil => rfl
  | cons b bs ih =>
    rw [List.cons_append, layA, layA, ih, List.length_cons, show n + 1 + bs.length = n + (bs.length + 1) by omega]
theorem layA_rgt {l : List Int} {n : Nat} (h : Rgt l n) {bs : List Int} (hb : ∀ b ∈ bs, b = 0 ∨ b = 1) : Rgt (layA l n bs) (n + bs.length) := by
  induction bs generalizing l n with
  | nil => exact h
  | cons b bs ih =>
    have := ih (lay_rgt h (hb b (by simp))) (fun x hx => hb x (by simp [hx]))
    rw [List.length_cons, show n + (bs.length + 1) = n + 1 + bs.length by omega]
    exact this
theorem layA_bat {l : List Int} {n : Nat} (h : Rgt l n) {bs : List Int} (hb : ∀ b ∈ bs, b = 0 ∨ b = 1) (k : Nat) : bat (layA l n bs) k = if n ≤ k ∧ k < n + bs.length then bs.getD (k - n) 0 else bat l k := by
  induction bs generalizing l n with
  | nil => rw [if_neg (by simp), layA]
  | cons b bs ih =>
    rw [layA, ih (lay_rgt h (hb b (by simp))) (fun x hx => hb x (by simp [hx])), lay_bat h (hb b (by simp))]
    by_cases h1 : k = n
    · subst h1
      rw [if_neg (by omega), if_pos rfl, if_pos (by simp)]
      simp
    · by_cases h2 : n + 1 ≤ k ∧ k < n + 1 + bs.length
      · rw [if_pos h2, if_pos (by rw [List.length_cons]; omega)]
        obtain ⟨d, hd⟩ : ∃ d, k - n = d + 1 := ⟨k - n - 1, by omega⟩
        rw [hd, show k - (n + 1) = d by omega]
        simp
      · rw [if_neg h2, if_neg h1, if_neg (by rw [List.length_cons]; omega)]
/-- The bits i, i + 1, .. of a number. -/
def bitsV (v : Int) (i : Nat) : Nat → List Int
  | 0 => []
  | c + 1 => vb v i :: bitsV v (i + 1) c
theorem bitsV_len (v : Int) (i c : Nat) : (bitsV v i c).length = c := by
  induction c generalizing i with
  | zero => rfl
  | succ c ih => rw [bitsV, List.length_cons, ih]
theorem bitsV_01 (v : Int) (i c : Nat) : ∀ b ∈ bitsV v i c, b = 0 ∨ b = 1 := by
  induction c generalizing i with
  | zero => intro b hb; cases hb
  | succ c ih =>
    intro b hb
    rw [bitsV, List.mem_cons] at hb
    rcases hb with rfl | hb
    · exact vb_01 _ _
    · exact ih _ b hb
theorem bitsV_get (v : Int) (i c j : Nat) (hj : j < c) : (bitsV v i c).getD j 0 = vb v (i + j) := by
  induction c generalizing i j with
  | zero => omega
  | succ c ih =>
    cases j with
    | zero => rfl
    | succ j =>
      rw [bitsV]
      have := ih (i + 1) j (by omega)
      simp only [List.getD_cons_succ]
      rw [this, show i + 1 + j = i + (j + 1) by omega]
end Go.Proofs.Ytggmffmajgnhkaa.Pr
