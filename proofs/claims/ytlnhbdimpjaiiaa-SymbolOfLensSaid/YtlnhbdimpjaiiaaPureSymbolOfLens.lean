/- Any symbol of a length has the bits beside it, and with any number the length, that the document says, or none. No condition. -/
import Derived.Test.YtlnhbdimpjaiiaaPSymbolOfLensx4
namespace Go.Proofs.Ytlnhbdimpjaiiaa.Pure
open Go.RowKit Go.Proofs.Ytlnhbdimpjaiiaa.PSymbolOfLens Go.Proofs.YtlnhbdimpjaiiaaW.PrintWords Go.Proofs.YtlnhbdimpjaiiaaW.PrintLast
set_option maxRecDepth 100000

theorem i64_bounds {a : Int} (h : (Lit.int .i64 a).wf = true) : -9223372036854775808 ≤ a ∧ a ≤ 9223372036854775807 := by
  have h2 : IntKind.i64.min ≤ a ∧ a ≤ IntKind.i64.max := by simpa [Lit.wf] using h
  have e1 : IntKind.i64.min = -9223372036854775808 := by decide +kernel
  have e2 : IntKind.i64.max = 9223372036854775807 := by decide +kernel
  omega

/-- The first length of each symbol, and one past the last. -/
def lB : List Int := [3, 4, 5, 6, 7, 8, 9, 10, 11, 13, 15, 17, 19, 23, 27, 31, 35, 43, 51, 59, 67, 83, 99, 115, 131, 163, 195, 227, 258, 259]
def lb : List Int := [0, 0, 0, 0, 0, 0, 0, 0, 1, 1, 1, 1, 2, 2, 2, 2, 3, 3, 3, 3, 4, 4, 4, 4, 5, 5, 5, 5, 0]

theorem wrap_in {x : Int} (h0 : -9223372036854775808 ≤ x) (h1 : x ≤ 9223372036854775807) : wrap64 x = x := by unfold wrap64; omega

theorem lives0 : valiselaw07_lives.f 100 = some true := by decide +kernel
theorem lives {k : Nat} (hk : 100 ≤ k) : valiselaw07_lives.f k = some true := at_rounds valiselaw07_lives.mono hk lives0

theorem place_l0 : ∀ i : Fin 28, symbol_kind_place.f 40 257 8 4 5 3 (257 + ((i.1 : Nat) : Int)) = some (rd lb (i.1 : Nat), rd lB (i.1 : Nat), true) := by decide +kernel
theorem place_l {k : Nat} (hk : 40 ≤ k) (i : Nat) (hi : i < 28) : symbol_kind_place.f k 257 8 4 5 3 (257 + (i : Int)) = some (rd lb i, rd lB i, true) :=
  at_rounds (symbol_kind_place.mono 257 8 4 5 3 (257 + (i : Int))) hk (place_l0 ⟨i, hi⟩)
theorem tab_l0 : ∀ i : Fin 29, 0 ≤ rd lb (i.1 : Nat) ∧ rd lb (i.1 : Nat) ≤ 5 ∧ 3 ≤ rd lB (i.1 : Nat) ∧ rd lB (i.1 : Nat) ≤ 258 ∧ shl .i64 1 (rd lb (i.1 : Nat)) = 2 ^ (rd lb (i.1 : Nat)).toNat ∧ ((2 : Int) ^ (rd lb (i.1 : Nat)).toNat) ≤ 32 := by decide +kernel
theorem tab_l (i : Nat) (hi : i < 29) : 0 ≤ rd lb i ∧ rd lb i ≤ 5 ∧ 3 ≤ rd lB i ∧ rd lB i ≤ 258 ∧ shl .i64 1 (rd lb i) = 2 ^ (rd lb i).toNat ∧ ((2 : Int) ^ (rd lb i).toNat) ≤ 32 := tab_l0 ⟨i, hi⟩
theorem place_out (sym : Int) (h0 : -9223372036854775808 ≤ sym) (h1 : sym ≤ 9223372036854775807) (h : sym < 257 ∨ 284 < sym) {k : Nat} (hk : 1 ≤ k) : symbol_kind_place.f k 257 8 4 5 3 sym = some (0, 0, false) := by
  obtain ⟨k, rfl⟩ : ∃ m, k = m + 1 := ⟨k - 1, by omega⟩
  unfold symbol_kind_place.f
  by_cases h2 : sym < 257
  · rw [if_pos h2]; simp only [symbol_kind_place.j0]; rfl
  · have e4 : wrap64 (8 + wrap64 (4 * 5)) = 28 := by decide +kernel
    have e : decide (wrap64 (sym - 257) ≥ wrap64 (8 + wrap64 (4 * 5))) = true := by rw [e4, wrap_in (by omega) (by omega)]; simp; omega
    rw [if_neg h2, e]; simp only [symbol_kind_place.j0]; rfl
theorem top_l (sym : Int) : symbol_kind_top.f 257 8 4 5 3 sym = some (sym == 285) := by unfold symbol_kind_top.f symbol_lens.f; rfl
theorem shr_zero {v b : Int} (h0 : 0 ≤ v) (hb : 0 ≤ b) (hb2 : b ≤ 13) : shr .i64 v b = 0 ↔ v < 2 ^ b.toNat := by
  have e : min b.toNat IntKind.i64.bits = b.toNat := Nat.min_eq_left (by simp only [IntKind.bits]; omega)
  have hp : (0 : Int) < 2 ^ b.toNat := Int.pow_pos (by omega)
  unfold shr
  rw [e]
  constructor
  · intro h
    have := Int.lt_mul_ediv_self_add (x := v) hp
    rw [h] at this
    omega
  · exact fun h => Int.ediv_eq_zero_of_lt h0 h
theorem top_no (sym : Int) (h : sym ≠ 285) : (sym == 285) = false := by simpa using h
theorem end_l : rd lb (28 : Nat) = 0 ∧ rd lB (28 : Nat) = 258 := by decide +kernel
theorem lenOf_out (sym v : Int) (h0 : -9223372036854775808 ≤ sym) (h1 : sym ≤ 9223372036854775807) (h : sym < 257 ∨ 285 < sym) {k : Nat} (hk : 80 ≤ k) : symbol_LenOf.f k sym v = some (0, 13) := by
  obtain ⟨k, rfl⟩ : ∃ m, k = m + 1 := ⟨k - 1, by omega⟩
  unfold symbol_LenOf.f symbol_lens.f
  simp only [Option.bind_some]
  unfold symbol_kind_of.f
  rw [place_out sym h0 h1 (by omega) (by omega), top_l, top_no sym (by omega)]
  simp only [Option.bind_some, symbol_kind_of.j0]
  rfl
theorem lenOf_in (s : Nat) (hs : s < 29) (v : Int) {k : Nat} (hk : 80 ≤ k) :
    symbol_LenOf.f k (257 + (s : Int)) v = some (if 0 ≤ v ∧ v < 2 ^ (rd lb s).toNat then (rd lB s + v, 0) else (0, 2)) := by
  obtain ⟨k, rfl⟩ : ∃ m, k = m + 1 := ⟨k - 1, by omega⟩
  obtain ⟨t0, t1, t2, t3, t4, t5⟩ := tab_l s hs
  have key : symbol_kind_of.j0 (k + 1) v (rd lb s) (rd lB s) true = some (if 0 ≤ v ∧ v < 2 ^ (rd lb s).toNat then (rd lB s + v, 0) else (0, 2)) := by
    simp only [symbol_kind_of.j0, if_true]
    by_cases hv : v < 0
    · rw [if_pos hv, if_neg (by omega)]
    · rw [if_neg hv, if_pos t0]
      by_cases hw : v < 2 ^ (rd lb s).toNat
      · rw [if_pos ((shr_zero (by omega) t0 (by omega)).2 hw), if_pos ⟨by omega, hw⟩, wrap_in (by omega) (by omega)]
      · rw [if_neg (fun h => hw ((shr_zero (by omega) t0 (by omega)).1 h)), if_neg (fun h => hw h.2)]
  unfold symbol_LenOf.f symbol_lens.f
  simp only [Option.bind_some]
  unfold symbol_kind_of.f
  rw [top_l]
  by_cases h28 : s = 28
  · subst h28
    rw [place_out (257 + ((28 : Nat) : Int)) (by omega) (by omega) (by omega) (by omega)]
    rw [end_l.1, end_l.2] at key
    rw [end_l.1, end_l.2, show ((257 + ((28 : Nat) : Int)) == 285) = true from rfl]
    simp only [Option.bind_some, if_true]
    rw [key]
    rfl
  · rw [place_l (by omega) s (by omega), top_no _ (by omega)]
    simp only [Option.bind_some, Bool.false_eq_true, if_false]
    rw [key]
    rfl
theorem lenBits_out (sym : Int) (h0 : -9223372036854775808 ≤ sym) (h1 : sym ≤ 9223372036854775807) (h : sym < 257 ∨ 285 < sym) {k : Nat} (hk : 80 ≤ k) : symbol_LenBits.f k sym = some (0, 13) := by
  unfold symbol_LenBits.f symbol_lens.f
  simp only [Option.bind_some]
  unfold symbol_kind_bits.f
  rw [place_out sym h0 h1 (by omega) (by omega), top_l, top_no sym (by omega)]
  rfl
theorem lenBits_in (s : Nat) (hs : s < 29) {k : Nat} (hk : 80 ≤ k) : symbol_LenBits.f k (257 + (s : Int)) = some (rd lb s, 0) := by
  unfold symbol_LenBits.f symbol_lens.f
  simp only [Option.bind_some]
  unfold symbol_kind_bits.f
  rw [top_l]
  by_cases h28 : s = 28
  · subst h28; rfl
  · rw [place_l (by omega) s (by omega), top_no _ (by omega)]
    rfl
theorem refLens : valiseref07_lens.f = some (lB.take 29, lb) := by decide +kernel
theorem refRd0 : ∀ i : Fin 29, rd (lB.take 29) (i.1 : Nat) = rd lB (i.1 : Nat) := by decide +kernel
theorem refRd (i : Nat) (h : i < 29) : rd (lB.take 29) i = rd lB i := refRd0 ⟨i, h⟩
theorem refLen : (lB.take 29).length = 29 := by decide +kernel
theorem refLen2 : lb.length = 29 := by decide +kernel
theorem sub257 (s : Nat) (hs : s < 29) : wrap64 (257 + (s : Int) - 257) = (s : Int) := by rw [wrap_in (by omega) (by omega)]; omega
theorem refBits_in (s : Nat) (hs : s < 29) : valiseref07_LenBits.f (257 + (s : Int)) = some (rd lb s, 0) := by
  unfold valiseref07_LenBits.f
  rw [if_neg (by omega), if_neg (by omega), refLens]
  simp only [Option.bind_some]
  rw [sub257 s hs, if_pos (by omega), refLen2, if_pos (by omega)]
theorem refBits_out (sym : Int) (h : sym < 257 ∨ 285 < sym) : valiseref07_LenBits.f sym = some (0, 13) := by
  unfold valiseref07_LenBits.f
  by_cases h1 : sym < 257
  · rw [if_pos h1]
  · rw [if_neg h1, if_pos (by omega)]
theorem SymbolOfLens : valiselaw07_SymbolOfLens.Pure := by
  intro sym v hsym hv
  obtain ⟨y0, y1⟩ := i64_bounds hsym
  refine ⟨120, ?_⟩
  unfold valiselaw07_SymbolOfLens.f
  by_cases h : sym < 257 ∨ 285 < sym
  · rw [lenBits_out sym y0 y1 h (by omega), refBits_out sym h, lenOf_out sym v y0 y1 h (by omega), lives (by omega)]
    unfold valiseref07_LenOf.f
    rw [refBits_out sym h]
    rfl
  · obtain ⟨s, rfl⟩ : ∃ s : Nat, sym = 257 + (s : Int) := ⟨(sym - 257).toNat, by omega⟩
    have hs : s < 29 := by omega
    obtain ⟨t0, t1, t2, t3, t4, t5⟩ := tab_l s hs
    rw [lenBits_in s hs (by omega), refBits_in s hs, lenOf_in s hs v (by omega), lives (by omega)]
    unfold valiseref07_LenOf.f
    rw [refBits_in s hs]
    simp only [Option.bind_some, if_true]
    by_cases hv0 : v < 0
    · rw [if_pos hv0, if_neg (by omega)]; rfl
    · rw [if_neg hv0, if_pos t0]
      by_cases hw : v < 2 ^ (rd lb s).toNat
      · rw [if_pos (show 0 ≤ v ∧ v < 2 ^ (rd lb s).toNat from ⟨by omega, hw⟩), if_neg (show ¬ v ≥ shl .i64 1 (rd lb s) by omega), refLens]
        simp only [Option.bind_some]
        rw [sub257 s hs, if_pos (by omega), refLen, if_pos (by omega), refRd s hs, wrap_in (by omega) (by omega)]
        simp
      · rw [if_neg (show ¬ (0 ≤ v ∧ v < 2 ^ (rd lb s).toNat) from fun h => hw h.2), if_pos (show v ≥ shl .i64 1 (rd lb s) by omega)]; simp only [Option.bind_some, if_true]

end Go.Proofs.Ytlnhbdimpjaiiaa.Pure
