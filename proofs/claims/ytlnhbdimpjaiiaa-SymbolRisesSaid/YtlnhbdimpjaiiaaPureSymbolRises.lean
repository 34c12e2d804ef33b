/- A greater distance has no lower symbol, and of one symbol the greater number; likewise lengths: the first numbers of the symbols rise. No condition. -/
import Derived.Test.YtlnhbdimpjaiiaaPSymbolRisesx4
namespace Go.Proofs.Ytlnhbdimpjaiiaa.Pure
open Go.RowKit Go.Proofs.Ytlnhbdimpjaiiaa.PSymbolRises Go.Proofs.YtlnhbdimpjaiiaaW.PrintWords Go.Proofs.YtlnhbdimpjaiiaaW.PrintLast
set_option maxRecDepth 100000

/-- The first distance of each symbol, and one past the last. -/
def sB : List Int := [1, 2, 3, 4, 5, 7, 9, 13, 17, 25, 33, 49, 65, 97, 129, 193, 257, 385, 513, 769, 1025, 1537, 2049, 3073, 4097, 6145, 8193, 12289, 16385, 24577, 32769]
/-- The bits beside each symbol of a distance. -/
def sb : List Int := [0, 0, 0, 0, 1, 1, 2, 2, 3, 3, 4, 4, 5, 5, 6, 6, 7, 7, 8, 8, 9, 9, 10, 10, 11, 11, 12, 12, 13, 13]
theorem place_d0 : ∀ i : Fin 30, symbol_kind_place.f 40 0 4 2 13 1 ((i.1 : Nat) : Int) = some (rd sb (i.1 : Nat), rd sB (i.1 : Nat), true) := by decide +kernel
theorem place_d {k : Nat} (hk : 40 ≤ k) (i : Nat) (hi : i < 30) : symbol_kind_place.f k 0 4 2 13 1 (i : Int) = some (rd sb i, rd sB i, true) :=
  at_rounds (symbol_kind_place.mono 0 4 2 13 1 (i : Int)) hk (place_d0 ⟨i, hi⟩)
theorem tab_d0 : ∀ i : Fin 30, 0 ≤ rd sb (i.1 : Nat) ∧ rd sb (i.1 : Nat) ≤ 13 ∧ rd sB (i.1 : Nat) + shl .i64 1 (rd sb (i.1 : Nat)) = rd sB ((i.1 : Nat) + 1 : Nat) ∧ 1 ≤ rd sB (i.1 : Nat) ∧ rd sB (i.1 : Nat) ≤ 32768 ∧ 2 ≤ rd sB ((i.1 : Nat) + 1 : Nat) ∧ rd sB ((i.1 : Nat) + 1 : Nat) ≤ 32769 ∧ shl .i64 1 (rd sb (i.1 : Nat)) = 2 ^ (rd sb (i.1 : Nat)).toNat := by decide +kernel
theorem tab_d (i : Nat) (hi : i < 30) : 0 ≤ rd sb i ∧ rd sb i ≤ 13 ∧ rd sB i + shl .i64 1 (rd sb i) = rd sB (i + 1 : Nat) ∧ 1 ≤ rd sB i ∧ rd sB i ≤ 32768 ∧ 2 ≤ rd sB (i + 1 : Nat) ∧ rd sB (i + 1 : Nat) ≤ 32769 ∧ shl .i64 1 (rd sb i) = 2 ^ (rd sb i).toNat := tab_d0 ⟨i, hi⟩
theorem rises_d0 : ∀ i : Fin 31, ∀ j : Fin 31, i.1 ≤ j.1 → rd sB (i.1 : Nat) ≤ rd sB (j.1 : Nat) := by decide +kernel
theorem rises_d {i j : Nat} (hj : j ≤ 30) (h : i ≤ j) : rd sB i ≤ rd sB j := rises_d0 ⟨i, by omega⟩ ⟨j, by omega⟩ h
theorem wrap_in {x : Int} (h0 : -9223372036854775808 ≤ x) (h1 : x ≤ 9223372036854775807) : wrap64 x = x := by unfold wrap64; omega
theorem find_d (n : Int) (hn : n ≤ 32768) : ∀ (d k i : Nat), i + d = 30 → rd sB i ≤ n → 42 + d ≤ k →
    ∃ s : Nat, i ≤ s ∧ s < 30 ∧ rd sB s ≤ n ∧ n < rd sB (s + 1 : Nat) ∧ symbol_kind_find.l0 k n 30 (i : Int) 0 4 2 13 1 = some ((s : Int), n - rd sB s) := by
  intro d
  induction d with
  | zero =>
    intro k i hd hB hk
    have h30 : rd sB (30 : Nat) = 32769 := by decide +kernel
    have : i = 30 := by omega
    subst this
    omega
  | succ d ih =>
    intro k i hd hB hk
    obtain ⟨k, rfl⟩ : ∃ m, k = m + 1 := ⟨k - 1, by omega⟩
    obtain ⟨t0, t1, t2, t3, t4, t5, t6, _⟩ := tab_d i (by omega)
    have hs : ((i : Nat) : Int) < 30 := by omega
    by_cases hlt : n < rd sB (i + 1 : Nat)
    · refine ⟨i, Nat.le_refl _, by omega, hB, hlt, ?_⟩
      simp only [symbol_kind_find.l0]
      rw [if_pos hs, wrap_in (by omega) (by omega), Int.zero_add, place_d (by omega) i (by omega)]
      simp only [Option.bind_some]
      rw [if_pos t0, wrap_in (by omega) (by omega), if_pos (by omega)]
    · obtain ⟨s, h1, h2, h3, h4, h5⟩ := ih k (i + 1) (by omega) (by omega) (by omega)
      refine ⟨s, by omega, h2, h3, h4, ?_⟩
      simp only [symbol_kind_find.l0]
      rw [if_pos hs, wrap_in (x := 0 + (i : Int)) (by omega) (by omega), Int.zero_add, place_d (by omega) i (by omega)]
      simp only [Option.bind_some]
      rw [if_pos t0, wrap_in (x := n - rd sB i) (by omega) (by omega), if_neg (by omega), wrap_in (by omega) (by omega)]
      exact h5
theorem dist_in (n : Int) (h1 : 1 ≤ n) (h2 : n ≤ 32768) {k : Nat} (hk : 80 ≤ k) : ∃ s : Nat, s < 30 ∧ rd sB s ≤ n ∧ n < rd sB (s + 1 : Nat) ∧ symbol_Dist.f k n = some ((s : Int), n - rd sB s, 0) := by
  obtain ⟨k, rfl⟩ : ∃ m, k = m + 1 := ⟨k - 1, by omega⟩
  obtain ⟨s, _, hs, h3, h4, h5⟩ := find_d n h2 30 k 0 rfl (by rw [show rd sB (0 : Nat) = 1 by decide +kernel]; exact h1) (by omega)
  refine ⟨s, hs, h3, h4, ?_⟩
  unfold symbol_Dist.f
  rw [if_neg (by omega)]
  simp only [symbol_Dist.j0]
  have e : decide (n > 32768) = false := by simp; omega
  have e4 : wrap64 (4 + wrap64 (2 * 13)) = 30 := by decide +kernel
  rw [e]
  simp only [symbol_dists.f, Option.bind_some, symbol_kind_find.f, e4, Bool.false_eq_true, if_false]
  have h5' : symbol_kind_find.l0 k n 30 0 0 4 2 13 1 = some ((s : Int), n - rd sB s) := h5
  rw [h5']
  simp only [Option.bind_some]
theorem dist_out (n : Int) (h : n < 1 ∨ 32768 < n) {k : Nat} (hk : 80 ≤ k) : symbol_Dist.f k n = some (0, 0, 2) := by
  obtain ⟨k, rfl⟩ : ∃ m, k = m + 1 := ⟨k - 1, by omega⟩
  unfold symbol_Dist.f
  by_cases h1 : n < 1
  · rw [if_pos h1]; simp only [symbol_Dist.j0]; rfl
  · have e : decide (n > 32768) = true := by simp; omega
    rw [if_neg h1, e]; simp only [symbol_Dist.j0]; rfl

/-- The first length of each symbol, and one past the last. -/
def lB : List Int := [3, 4, 5, 6, 7, 8, 9, 10, 11, 13, 15, 17, 19, 23, 27, 31, 35, 43, 51, 59, 67, 83, 99, 115, 131, 163, 195, 227, 258, 259]
def lb : List Int := [0, 0, 0, 0, 0, 0, 0, 0, 1, 1, 1, 1, 2, 2, 2, 2, 3, 3, 3, 3, 4, 4, 4, 4, 5, 5, 5, 5, 0]

theorem len_in0 : ∀ n : Fin 256, ∃ i : Fin 29, rd lB (i.1 : Nat) ≤ (n.1 : Int) + 3 ∧ (n.1 : Int) + 3 < rd lB ((i.1 : Nat) + 1 : Nat) ∧ symbol_Len.f 80 ((n.1 : Int) + 3) = some (257 + (i.1 : Int), (n.1 : Int) + 3 - rd lB (i.1 : Nat), 0) := by decide +kernel
theorem len_in (n : Int) (h1 : 3 ≤ n) (h2 : n ≤ 258) {k : Nat} (hk : 80 ≤ k) : ∃ i : Nat, i < 29 ∧ rd lB i ≤ n ∧ n < rd lB (i + 1 : Nat) ∧ symbol_Len.f k n = some (257 + (i : Int), n - rd lB i, 0) := by
  obtain ⟨i, h3, h4, h5⟩ := len_in0 ⟨(n - 3).toNat, by omega⟩
  have e : (((n - 3).toNat : Nat) : Int) + 3 = n := by omega
  simp only [e] at h3 h4 h5
  exact ⟨i.1, i.2, h3, h4, at_rounds (symbol_Len.mono n) hk h5⟩
theorem rises_l0 : ∀ i : Fin 30, ∀ j : Fin 30, i.1 ≤ j.1 → rd lB (i.1 : Nat) ≤ rd lB (j.1 : Nat) := by decide +kernel
theorem rises_l {i j : Nat} (hj : j ≤ 29) (h : i ≤ j) : rd lB i ≤ rd lB j := rises_l0 ⟨i, by omega⟩ ⟨j, by omega⟩ h

theorem lives0 : valiselaw07_lives.f 100 = some true := by decide +kernel
theorem lives {k : Nat} (hk : 100 ≤ k) : valiselaw07_lives.f k = some true := at_rounds valiselaw07_lives.mono hk lives0

theorem part3 (n m : Int) (h : 1 ≤ n ∧ n < m ∧ m ≤ 32768) {k : Nat} (hk : 110 ≤ k) : valiselaw07_SymbolRises.j1 k n m false = some true := by
  obtain ⟨k, rfl⟩ : ∃ m, k = m + 2 := ⟨k - 2, by omega⟩
  simp only [valiselaw07_SymbolRises.j1, Bool.false_eq_true, if_false]
  by_cases h1 : n < 3 ∨ 258 < m
  · have e : (if n < 3 then valiselaw07_SymbolRises.j2 (k + 1) n m true else valiselaw07_SymbolRises.j2 (k + 1) n m (decide (m > 258))) = valiselaw07_SymbolRises.j2 (k + 1) n m true := by
      by_cases h2 : n < 3
      · rw [if_pos h2]
      · have e : decide (m > 258) = true := by simp; omega
        rw [if_neg h2, e]
    rw [e]
    simp only [valiselaw07_SymbolRises.j2, if_true]
    rw [lives (by omega)]; rfl
  · have e : decide (m > 258) = false := by simp; omega
    rw [if_neg (by omega), e]
    simp only [valiselaw07_SymbolRises.j2, Bool.false_eq_true, if_false]
    obtain ⟨s, hs, a1, a2, a3⟩ := len_in n (by omega) (by omega) (k := k) (by omega)
    obtain ⟨t, ht, b1, b2, b3⟩ := len_in m (by omega) (by omega) (k := k) (by omega)
    rw [a3, b3, lives (by omega)]
    simp only [Option.bind_some, if_true]
    have hst : s ≤ t := by
      rcases Nat.lt_or_ge t s with hlt | hge
      · have := rises_l (i := t + 1) (j := s) (by omega) hlt
        omega
      · exact hge
    by_cases he : s = t
    · subst he
      rw [if_neg (by omega), if_pos rfl, if_pos (by congr 1; omega)]
    · rw [if_pos (by omega)]
theorem SymbolRises : valiselaw07_SymbolRises.Pure := by
  intro n m hn hm
  refine ⟨120, ?_⟩
  unfold valiselaw07_SymbolRises.f
  by_cases h : n < 1 ∨ m ≤ n ∨ 32768 < m
  · have e : (if n < 1 then valiselaw07_SymbolRises.j0 120 n m true else if n ≥ m then valiselaw07_SymbolRises.j0 120 n m true else valiselaw07_SymbolRises.j0 120 n m (decide (m > 32768))) = valiselaw07_SymbolRises.j0 120 n m true := by
      by_cases h2 : n < 1
      · rw [if_pos h2]
      · rw [if_neg h2]
        by_cases h3 : n ≥ m
        · rw [if_pos h3]
        · have e : decide (m > 32768) = true := by simp; omega
          rw [if_neg h3, e]
    rw [e]
    simp only [valiselaw07_SymbolRises.j0, if_true]
    rw [lives (by omega)]; rfl
  · have e : decide (m > 32768) = false := by simp; omega
    rw [if_neg (by omega), if_neg (by omega), e]
    simp only [valiselaw07_SymbolRises.j0, Bool.false_eq_true, if_false]
    obtain ⟨s, hs, a1, a2, a3⟩ := dist_in n (by omega) (by omega) (k := 119) (by omega)
    obtain ⟨t, ht, b1, b2, b3⟩ := dist_in m (by omega) (by omega) (k := 119) (by omega)
    rw [a3, b3]
    simp only [Option.bind_some, if_true]
    have hst : s ≤ t := by
      rcases Nat.lt_or_ge t s with hlt | hge
      · have := rises_d (i := t + 1) (j := s) (by omega) hlt
        omega
      · exact hge
    rw [if_neg (by omega)]
    by_cases he : s = t
    · subst he
      have e2 : (wrap64 (m - rd sB s - (n - rd sB s)) != wrap64 (m - n)) = false := by
        rw [bne_eq_false_iff_eq]; congr 1; omega
      rw [if_pos rfl, e2]
      exact part3 n m ⟨by omega, by omega, by omega⟩ (by omega)
    · rw [if_neg (by omega)]
      exact part3 n m ⟨by omega, by omega, by omega⟩ (by omega)

end Go.Proofs.Ytlnhbdimpjaiiaa.Pure
