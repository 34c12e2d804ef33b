/- Any length has the symbol and the number beside it that the document says, or none: every length is tried, all other numbers are refused by both. No condition. -/
import Derived.Test.YtlnhbdimpjaiiaaPSymbolLensx4
namespace Go.Proofs.Ytlnhbdimpjaiiaa.Pure
open Go.RowKit Go.Proofs.Ytlnhbdimpjaiiaa.PSymbolLens Go.Proofs.YtlnhbdimpjaiiaaW.PrintWords Go.Proofs.YtlnhbdimpjaiiaaW.PrintLast
set_option maxRecDepth 100000

theorem wrap_in {x : Int} (h0 : -9223372036854775808 ≤ x) (h1 : x ≤ 9223372036854775807) : wrap64 x = x := by unfold wrap64; omega

theorem len_out (n : Int) (h : n < 3 ∨ 258 < n) {k : Nat} (hk : 80 ≤ k) : symbol_Len.f k n = some (0, 0, 2) := by
  obtain ⟨k, rfl⟩ : ∃ m, k = m + 1 := ⟨k - 1, by omega⟩
  unfold symbol_Len.f
  by_cases h1 : n < 3
  · rw [if_pos h1]; simp only [symbol_Len.j0]; rfl
  · have e : decide (n > 258) = true := by simp; omega
    rw [if_neg h1, e]; simp only [symbol_Len.j0]; rfl

theorem lives0 : valiselaw07_lives.f 100 = some true := by decide +kernel
theorem lives {k : Nat} (hk : 100 ≤ k) : valiselaw07_lives.f k = some true := at_rounds valiselaw07_lives.mono hk lives0

theorem ref_out (n : Int) (h : n < 3 ∨ 258 < n) {k : Nat} (hk : 80 ≤ k) : valiseref07_Len.f k n = some (0, 0, 2) := by
  obtain ⟨k, rfl⟩ : ∃ m, k = m + 1 := ⟨k - 1, by omega⟩
  unfold valiseref07_Len.f
  by_cases h1 : n < 3
  · rw [if_pos h1]; simp only [valiseref07_Len.j0]; rfl
  · have e : decide (n > 258) = true := by simp; omega
    rw [if_neg h1, e]; simp only [valiseref07_Len.j0]; rfl
theorem alike0 : ∀ n : Fin 256, (symbol_Len.f 100 ((n.1 : Int) + 3)).isSome = true ∧ symbol_Len.f 100 ((n.1 : Int) + 3) = valiseref07_Len.f 100 ((n.1 : Int) + 3) := by decide +kernel
theorem SymbolLens : valiselaw07_SymbolLens.Pure := by
  intro n hn
  refine ⟨100, ?_⟩
  unfold valiselaw07_SymbolLens.f
  by_cases h : n < 3 ∨ 258 < n
  · rw [len_out n h (by omega), ref_out n h (by omega), lives (Nat.le_refl _)]; rfl
  · obtain ⟨h1, h2⟩ := alike0 ⟨(n - 3).toNat, by omega⟩
    have e : (((n - 3).toNat : Nat) : Int) + 3 = n := by omega
    simp only [e] at h1 h2
    obtain ⟨r, hr⟩ := Option.isSome_iff_exists.1 h1
    rw [← h2, hr, lives (Nat.le_refl _)]
    simp

end Go.Proofs.Ytlnhbdimpjaiiaa.Pure
