/- Any distance has the symbol and the number beside it that the document says, or none: the loop over the groups and the search in the written out table agree. No condition. -/
import Derived.Test.YtlnhbdimpjaiiaaPSymbolDistsx4
namespace Go.Proofs.Ytlnhbdimpjaiiaa.Pure
open Go.RowKit Go.Proofs.Ytlnhbdimpjaiiaa.PSymbolDists Go.Proofs.YtlnhbdimpjaiiaaW.PrintWords Go.Proofs.YtlnhbdimpjaiiaaW.PrintLast
set_option maxRecDepth 100000

/-- The first distance of each symbol, and one past the last. -/
def sB : List Int := [1, 2, 3, 4, 5, 7, 9, 13, 17, 25, 33, 49, 65, 97, 129, 193, 257, 385, 513, 769, 1025, 1537, 2049, 3073, 4097, 6145, 8193, 12289, 16385, 24577, 32769]
/-- The bits beside each symbol of a distance. -/
def sb : List Int := [0, 0, 0, 0, 1, 1, 2, 2, 3, 3, 4, 4, 5, 5, 6, 6, 7, 7, 8, 8, 9, 9, 10, 10, 11, 11, 12, 12, 13, 13]
theorem place_d0 : ∀ i : Fin 30, symbol_kind_place.f 40 0 4 2 13 1 ((i.1 : Nat) : Int) = some (rd sb (i.1 : Nat), rd sB (i.1 : Nat), true) := by decide +kernel
theorem place_d {k : Nat} (hk : 40 ≤ k) (i : Nat) (hi : i < 30) : symbol_kind_place.f k 0 4 2 13 1 (i : Int) = some (rd sb i, rd sB i, true) :=
  at_rounds (symbol_kind_place.mono 0 4 2 13 1 (i : Int)) hk (place_d0 ⟨i, hi⟩)
theorem tab_d0 : ∀ i : Fin 30, 0 ≤ rd sb (i.1 : Nat) ∧ rd sb (i.1 : Nat) ≤ 13 ∧ rd sB (i.1 : Nat) + shl .i64 1 (rd sb (i.1 : Nat)) = rd sB ((i.1 : Nat) + 1 : Nat) ∧ 1 ≤ rd sB (i.1 : Nat) ∧ rd sB (i.1 : Nat) ≤ 32768 ∧ 2 ≤ rd sB ((i.1 : Nat) + 1 : Nat) ∧ rd sB ((i.1 : Nat) + 1 : Nat) ≤ 32769 ∧ shl .i64 1 (rd sb (i.1 : Nat)) = 2 ^ (rd sb (i.1 : Nat)).toNat := by decide +kernel
theorem tab_d (i : Nat) (hi : i < 30) : 0 ≤ rd sb i ∧ rd sb i ≤ 13 ∧ rd sB i + shl .i64 1 (rd sb i) = rd sB (i + 1 : Nat) ∧ 1 ≤ rd sB i ∧ rd sB i ≤ 32768 ∧ 2 ≤ rd sB (i + 1 : Nat) ∧ rd sB (i + 1 : Nat) ≤ 32769 ∧ shl .i64 1 (rd sb i) = 2 ^ (rd sb i).toNat := tab_d0 ⟨i, hi⟩
theorem rises_d0 : ∀ i : Fin 31, ∀ j : Fin 31, i.1 ≤ j.1 → rd sB (i.1 : Nat) ≤ rd sB (j.1 : Nat) := by decide +kernel
theorem rises_d {i j : Nat} (hj : j ≤ 30) (h : i ≤ j) : rd sB i ≤ rd sB j := rises_d0 ⟨i, by omega⟩ ⟨j, by omega⟩ h
theorem wrap_in {x : Int} (h0 : -9223372036854775808 ≤ x) (h1 : x ≤ 9223372036854775807) : wrap64 x = x := by unfold wrap64; omega
theorem find_d (n : Int) (hn : n ≤ 32768) : ∀ (d k i : Nat), i + d = 30 → rd sB i ≤ n → 42 + d ≤ k →
    ∃ s : Nat, i ≤ s ∧ s < 30 ∧ rd sB s ≤ n ∧ n < rd sB (s + 1 : Nat) ∧ symbol_kind_find.l0 k n 30 (i : Int) 0 4 2 13 1 = some ((s : Int), n - rd sB s) := by
  intro d
  induction d with
  | zero =>
    intro k i hd hB hk
    have h30 : rd sB (30 : Nat) = 32769 := by decide +kernel
    have : i = 30 := by omega
    subst this
    omega
  | succ d ih =>
    intro k i hd hB hk
    obtain ⟨k, rfl⟩ : ∃ m, k = m + 1 := ⟨k - 1, by omega⟩
    obtain ⟨t0, t1, t2, t3, t4, t5, t6, _⟩ := tab_d i (by omega)
    have hs : ((i : Nat) : Int) < 30 := by omega
    by_cases hlt : n < rd sB (i + 1 : Nat)
    · refine ⟨i, Nat.le_refl _, by omega, hB, hlt, ?_⟩
      simp only [symbol_kind_find.l0]
      rw [if_pos hs, wrap_in (by omega) (by omega), Int.zero_add, place_d (by omega) i (by omega)]
      simp only [Option.bind_some]
      rw [if_pos t0, wrap_in (by omega) (by omega), if_pos (by omega)]
    · obtain ⟨s, h1, h2, h3, h4, h5⟩ := ih k (i + 1) (by omega) (by omega) (by omega)
      refine ⟨s, by omega, h2, h3, h4, ?_⟩
      simp only [symbol_kind_find.l0]
      rw [if_pos hs, wrap_in (x := 0 + (i : Int)) (by omega) (by omega), Int.zero_add, place_d (by omega) i (by omega)]
      simp only [Option.bind_some]
      rw [if_pos t0, wrap_in (x := n - rd sB i) (by omega) (by omega), if_neg (by omega), wrap_in (by omega) (by omega)]
      exact h5
theorem dist_in (n : Int) (h1 : 1 ≤ n) (h2 : n ≤ 32768) {k : Nat} (hk : 80 ≤ k) : ∃ s : Nat, s < 30 ∧ rd sB s ≤ n ∧ n < rd sB (s + 1 : Nat) ∧ symbol_Dist.f k n = some ((s : Int), n - rd sB s, 0) := by
  obtain ⟨k, rfl⟩ : ∃ m, k = m + 1 := ⟨k - 1, by omega⟩
  obtain ⟨s, _, hs, h3, h4, h5⟩ := find_d n h2 30 k 0 rfl (by rw [show rd sB (0 : Nat) = 1 by decide +kernel]; exact h1) (by omega)
  refine ⟨s, hs, h3, h4, ?_⟩
  unfold symbol_Dist.f
  rw [if_neg (by omega)]
  simp only [symbol_Dist.j0]
  have e : decide (n > 32768) = false := by simp; omega
  have e4 : wrap64 (4 + wrap64 (2 * 13)) = 30 := by decide +kernel
  rw [e]
  simp only [symbol_dists.f, Option.bind_some, symbol_kind_find.f, e4, Bool.false_eq_true, if_false]
  have h5' : symbol_kind_find.l0 k n 30 0 0 4 2 13 1 = some ((s : Int), n - rd sB s) := h5
  rw [h5']
  simp only [Option.bind_some]
theorem dist_out (n : Int) (h : n < 1 ∨ 32768 < n) {k : Nat} (hk : 80 ≤ k) : symbol_Dist.f k n = some (0, 0, 2) := by
  obtain ⟨k, rfl⟩ : ∃ m, k = m + 1 := ⟨k - 1, by omega⟩
  unfold symbol_Dist.f
  by_cases h1 : n < 1
  · rw [if_pos h1]; simp only [symbol_Dist.j0]; rfl
  · have e : decide (n > 32768) = true := by simp; omega
    rw [if_neg h1, e]; simp only [symbol_Dist.j0]; rfl

theorem last_l (xs : List Int) (n : Int) (hx : xs.length ≤ 1000) (s : Nat) (hs : s < xs.length) (hq : ∀ j : Nat, j < xs.length → (rd xs j ≤ n ↔ j ≤ s)) : ∀ (d k i : Nat) (a : Int), i + d = xs.length → d < k → (s < i → a = s) →
    valiseref07_last.l0 k xs n a (i : Int) = some (s : Int) := by
  intro d
  induction d with
  | zero =>
    intro k i a hd hk ha
    obtain ⟨k, rfl⟩ : ∃ m, k = m + 1 := ⟨k - 1, by omega⟩
    simp only [valiseref07_last.l0]; rw [if_neg (by omega), ha (by omega)]
  | succ d ih =>
    intro k i a hd hk ha
    obtain ⟨k, rfl⟩ : ∃ m, k = m + 1 := ⟨k - 1, by omega⟩
    have hqi := hq i (by omega)
    have hi1 : wrap64 ((i : Int) + 1) = ((i + 1 : Nat) : Int) := by rw [wrap_in (by omega) (by omega)]; rfl
    simp only [valiseref07_last.l0]; rw [if_pos (by omega), if_pos (by omega), hi1]
    by_cases hle : rd xs i ≤ n
    · have := hqi.1 hle
      rw [if_pos hle]
      exact ih k (i + 1) (i : Int) (by omega) (by omega) (fun h => by omega)
    · have : ¬ i ≤ s := fun h => hle (hqi.2 h)
      rw [if_neg hle]
      exact ih k (i + 1) a (by omega) (by omega) (fun h => ha (by omega))

theorem lives0 : valiselaw07_lives.f 100 = some true := by decide +kernel
theorem lives {k : Nat} (hk : 100 ≤ k) : valiselaw07_lives.f k = some true := at_rounds valiselaw07_lives.mono hk lives0

theorem refDists : valiseref07_dists.f = some (sB.take 30, sb) := by decide +kernel
theorem refRd0 : ∀ i : Fin 30, rd (sB.take 30) (i.1 : Nat) = rd sB (i.1 : Nat) := by decide +kernel
theorem refRd (i : Nat) (h : i < 30) : rd (sB.take 30) i = rd sB i := refRd0 ⟨i, h⟩
theorem refLen : (sB.take 30).length = 30 := by decide +kernel
theorem refLen2 : sb.length = 30 := by decide +kernel

theorem refLast (n : Int) (s : Nat) (hs : s < 30) (h1 : rd sB s ≤ n) (h2 : n < rd sB (s + 1 : Nat)) {k : Nat} (hk : 80 ≤ k) : valiseref07_last.f k (sB.take 30) n = some (s : Int) := by
  unfold valiseref07_last.f
  refine last_l (sB.take 30) n (by rw [refLen]; omega) s (by rw [refLen]; exact hs) (fun j hj => ?_) 30 k 0 0 (by rw [refLen]) (by omega) (fun h => by omega)
  rw [refLen] at hj
  rw [refRd j hj]
  constructor
  · intro h
    rcases Nat.lt_or_ge s j with hlt | hge
    · have := rises_d (i := s + 1) (j := j) (by omega) hlt
      omega
    · exact hge
  · intro h
    have := rises_d (i := j) (j := s) (by omega) h
    omega
theorem ref_out (n : Int) (h : n < 1 ∨ 32768 < n) {k : Nat} (hk : 80 ≤ k) : valiseref07_Dist.f k n = some (0, 0, 2) := by
  obtain ⟨k, rfl⟩ : ∃ m, k = m + 1 := ⟨k - 1, by omega⟩
  unfold valiseref07_Dist.f
  by_cases h1 : n < 1
  · rw [if_pos h1]; simp only [valiseref07_Dist.j0]; rfl
  · have e : decide (n > 32768) = true := by simp; omega
    rw [if_neg h1, e]; simp only [valiseref07_Dist.j0]; rfl
theorem ref_in (n : Int) (hn : n ≤ 32768) (s : Nat) (hs : s < 30) (h1 : rd sB s ≤ n) (h2 : n < rd sB (s + 1 : Nat)) {k : Nat} (hk : 90 ≤ k) : valiseref07_Dist.f k n = some ((s : Int), n - rd sB s, 0) := by
  obtain ⟨k, rfl⟩ : ∃ m, k = m + 1 := ⟨k - 1, by omega⟩
  obtain ⟨t0, t1, t2, t3, t4, t5, t6, t7⟩ := tab_d s hs
  have e : decide (n > 32768) = false := by simp; omega
  unfold valiseref07_Dist.f
  rw [if_neg (by omega), e]
  simp only [valiseref07_Dist.j0, refDists, Option.bind_some, Bool.false_eq_true, if_false]
  rw [refLast n s hs h1 h2 (by omega)]
  simp only [Option.bind_some]
  rw [if_pos (by omega), refLen, if_pos (by omega), refRd s hs, wrap_in (by omega) (by omega)]
theorem SymbolDists : valiselaw07_SymbolDists.Pure := by
  intro n hn
  refine ⟨100, ?_⟩
  unfold valiselaw07_SymbolDists.f
  by_cases h : n < 1 ∨ 32768 < n
  · rw [dist_out n h (by omega), ref_out n h (by omega), lives (Nat.le_refl _)]; rfl
  · obtain ⟨s, hs, h1, h2, h3⟩ := dist_in n (by omega) (by omega) (k := 100) (by omega)
    rw [h3, ref_in n (by omega) s hs h1 h2 (by omega), lives (Nat.le_refl _)]
    simp

end Go.Proofs.Ytlnhbdimpjaiiaa.Pure
