/- A length, a distance, is that of its symbol and the number beside it: lengths are tried one by one, distances by their symbol. No condition. -/
import Derived.Test.YtlnhbdimpjaiiaaPSymbolBackx4
namespace Go.Proofs.Ytlnhbdimpjaiiaa.Pure
open Go.RowKit Go.Proofs.Ytlnhbdimpjaiiaa.PSymbolBack Go.Proofs.YtlnhbdimpjaiiaaW.PrintWords Go.Proofs.YtlnhbdimpjaiiaaW.PrintLast
set_option maxRecDepth 100000

/-- The first distance of each symbol, and one past the last. -/
def sB : List Int := [1, 2, 3, 4, 5, 7, 9, 13, 17, 25, 33, 49, 65, 97, 129, 193, 257, 385, 513, 769, 1025, 1537, 2049, 3073, 4097, 6145, 8193, 12289, 16385, 24577, 32769]
/-- The bits beside each symbol of a distance. -/
def sb : List Int := [0, 0, 0, 0, 1, 1, 2, 2, 3, 3, 4, 4, 5, 5, 6, 6, 7, 7, 8, 8, 9, 9, 10, 10, 11, 11, 12, 12, 13, 13]
theorem place_d0 : ∀ i : Fin 30, symbol_kind_place.f 40 0 4 2 13 1 ((i.1 : Nat) : Int) = some (rd sb (i.1 : Nat), rd sB (i.1 : Nat), true) := by decide +kernel
theorem place_d {k : Nat} (hk : 40 ≤ k) (i : Nat) (hi : i < 30) : symbol_kind_place.f k 0 4 2 13 1 (i : Int) = some (rd sb i, rd sB i, true) :=
  at_rounds (symbol_kind_place.mono 0 4 2 13 1 (i : Int)) hk (place_d0 ⟨i, hi⟩)
theorem tab_d0 : ∀ i : Fin 30, 0 ≤ rd sb (i.1 : Nat) ∧ rd sb (i.1 : Nat) ≤ 13 ∧ rd sB (i.1 : Nat) + shl .i64 1 (rd sb (i.1 : Nat)) = rd sB ((i.1 : Nat) + 1 : Nat) ∧ 1 ≤ rd sB (i.1 : Nat) ∧ rd sB (i.1 : Nat) ≤ 32768 ∧ 2 ≤ rd sB ((i.1 : Nat) + 1 : Nat) ∧ rd sB ((i.1 : Nat) + 1 : Nat) ≤ 32769 ∧ shl .i64 1 (rd sb (i.1 : Nat)) = 2 ^ (rd sb (i.1 : Nat)).toNat := by decide +kernel
theorem tab_d (i : Nat) (hi : i < 30) : 0 ≤ rd sb i ∧ rd sb i ≤ 13 ∧ rd sB i + shl .i64 1 (rd sb i) = rd sB (i + 1 : Nat) ∧ 1 ≤ rd sB i ∧ rd sB i ≤ 32768 ∧ 2 ≤ rd sB (i + 1 : Nat) ∧ rd sB (i + 1 : Nat) ≤ 32769 ∧ shl .i64 1 (rd sb i) = 2 ^ (rd sb i).toNat := tab_d0 ⟨i, hi⟩
theorem rises_d0 : ∀ i : Fin 31, ∀ j : Fin 31, i.1 ≤ j.1 → rd sB (i.1 : Nat) ≤ rd sB (j.1 : Nat) := by decide +kernel
theorem rises_d {i j : Nat} (hj : j ≤ 30) (h : i ≤ j) : rd sB i ≤ rd sB j := rises_d0 ⟨i, by omega⟩ ⟨j, by omega⟩ h
theorem wrap_in {x : Int} (h0 : -9223372036854775808 ≤ x) (h1 : x ≤ 9223372036854775807) : wrap64 x = x := by unfold wrap64; omega
theorem find_d (n : Int) (hn : n ≤ 32768) : ∀ (d k i : Nat), i + d = 30 → rd sB i ≤ n → 42 + d ≤ k →
    ∃ s : Nat, i ≤ s ∧ s < 30 ∧ rd sB s ≤ n ∧ n < rd sB (s + 1 : Nat) ∧ symbol_kind_find.l0 k n 30 (i : Int) 0 4 2 13 1 = some ((s : Int), n - rd sB s) := by
  intro d
  induction d with
  | zero =>
    intro k i hd hB hk
    have h30 : rd sB (30 : Nat) = 32769 := by decide +kernel
    have : i = 30 := by omega
    subst this
    omega
  | succ d ih =>
    intro k i hd hB hk
    obtain ⟨k, rfl⟩ : ∃ m, k = m + 1 := ⟨k - 1, by omega⟩
    obtain ⟨t0, t1, t2, t3, t4, t5, t6, _⟩ := tab_d i (by omega)
    have hs : ((i : Nat) : Int) < 30 := by omega
    by_cases hlt : n < rd sB (i + 1 : Nat)
    · refine ⟨i, Nat.le_refl _, by omega, hB, hlt, ?_⟩
      simp only [symbol_kind_find.l0]
      rw [if_pos hs, wrap_in (by omega) (by omega), Int.zero_add, place_d (by omega) i (by omega)]
      simp only [Option.bind_some]
      rw [if_pos t0, wrap_in (by omega) (by omega), if_pos (by omega)]
    · obtain ⟨s, h1, h2, h3, h4, h5⟩ := ih k (i + 1) (by omega) (by omega) (by omega)
      refine ⟨s, by omega, h2, h3, h4, ?_⟩
      simp only [symbol_kind_find.l0]
      rw [if_pos hs, wrap_in (x := 0 + (i : Int)) (by omega) (by omega), Int.zero_add, place_d (by omega) i (by omega)]
      simp only [Option.bind_some]
      rw [if_pos t0, wrap_in (x := n - rd sB i) (by omega) (by omega), if_neg (by omega), wrap_in (by omega) (by omega)]
      exact h5
theorem dist_in (n : Int) (h1 : 1 ≤ n) (h2 : n ≤ 32768) {k : Nat} (hk : 80 ≤ k) : ∃ s : Nat, s < 30 ∧ rd sB s ≤ n ∧ n < rd sB (s + 1 : Nat) ∧ symbol_Dist.f k n = some ((s : Int), n - rd sB s, 0) := by
  obtain ⟨k, rfl⟩ : ∃ m, k = m + 1 := ⟨k - 1, by omega⟩
  obtain ⟨s, _, hs, h3, h4, h5⟩ := find_d n h2 30 k 0 rfl (by rw [show rd sB (0 : Nat) = 1 by decide +kernel]; exact h1) (by omega)
  refine ⟨s, hs, h3, h4, ?_⟩
  unfold symbol_Dist.f
  rw [if_neg (by omega)]
  simp only [symbol_Dist.j0]
  have e : decide (n > 32768) = false := by simp; omega
  have e4 : wrap64 (4 + wrap64 (2 * 13)) = 30 := by decide +kernel
  rw [e]
  simp only [symbol_dists.f, Option.bind_some, symbol_kind_find.f, e4, Bool.false_eq_true, if_false]
  have h5' : symbol_kind_find.l0 k n 30 0 0 4 2 13 1 = some ((s : Int), n - rd sB s) := h5
  rw [h5']
  simp only [Option.bind_some]
theorem dist_out (n : Int) (h : n < 1 ∨ 32768 < n) {k : Nat} (hk : 80 ≤ k) : symbol_Dist.f k n = some (0, 0, 2) := by
  obtain ⟨k, rfl⟩ : ∃ m, k = m + 1 := ⟨k - 1, by omega⟩
  unfold symbol_Dist.f
  by_cases h1 : n < 1
  · rw [if_pos h1]; simp only [symbol_Dist.j0]; rfl
  · have e : decide (n > 32768) = true := by simp; omega
    rw [if_neg h1, e]; simp only [symbol_Dist.j0]; rfl

theorem place_out (sym : Int) (h0 : -9223372036854775808 ≤ sym) (h1 : sym ≤ 9223372036854775807) (h : sym < 0 ∨ 29 < sym) {k : Nat} (hk : 1 ≤ k) : symbol_kind_place.f k 0 4 2 13 1 sym = some (0, 0, false) := by
  obtain ⟨k, rfl⟩ : ∃ m, k = m + 1 := ⟨k - 1, by omega⟩
  unfold symbol_kind_place.f
  by_cases h2 : sym < 0
  · rw [if_pos h2]; simp only [symbol_kind_place.j0]; rfl
  · have e4 : wrap64 (4 + wrap64 (2 * 13)) = 30 := by decide +kernel
    have e : decide (wrap64 (sym - 0) ≥ wrap64 (4 + wrap64 (2 * 13))) = true := by rw [e4, wrap_in (by omega) (by omega)]; simp; omega
    rw [if_neg h2, e]; simp only [symbol_kind_place.j0]; rfl
theorem top_d (sym : Int) : symbol_kind_top.f 0 4 2 13 1 sym = some false := by unfold symbol_kind_top.f symbol_lens.f; rfl
theorem shr_zero {v b : Int} (h0 : 0 ≤ v) (hb : 0 ≤ b) (hb2 : b ≤ 13) : shr .i64 v b = 0 ↔ v < 2 ^ b.toNat := by
  have e : min b.toNat IntKind.i64.bits = b.toNat := Nat.min_eq_left (by simp only [IntKind.bits]; omega)
  have hp : (0 : Int) < 2 ^ b.toNat := Int.pow_pos (by omega)
  unfold shr
  rw [e]
  constructor
  · intro h
    have := Int.lt_mul_ediv_self_add (x := v) hp
    rw [h] at this
    omega
  · exact fun h => Int.ediv_eq_zero_of_lt h0 h
theorem distOf_out (sym v : Int) (h0 : -9223372036854775808 ≤ sym) (h1 : sym ≤ 9223372036854775807) (h : sym < 0 ∨ 29 < sym) {k : Nat} (hk : 80 ≤ k) : symbol_DistOf.f k sym v = some (0, 13) := by
  obtain ⟨k, rfl⟩ : ∃ m, k = m + 1 := ⟨k - 1, by omega⟩
  unfold symbol_DistOf.f symbol_dists.f
  simp only [Option.bind_some]
  unfold symbol_kind_of.f
  rw [place_out sym h0 h1 h (by omega), top_d]
  simp only [Option.bind_some, symbol_kind_of.j0]
  rfl
theorem distOf_gen (s b B v : Int) (k : Nat) (hp : symbol_kind_place.f (k + 1) 0 4 2 13 1 s = some (b, B, true)) (t0 : 0 ≤ b) (t1 : b ≤ 13) (t3 : 1 ≤ B) (t4 : B ≤ 32768) (t5 : (2 : Int) ^ b.toNat ≤ 32768) :
    symbol_DistOf.f (k + 1) s v = some (if 0 ≤ v ∧ v < 2 ^ b.toNat then (B + v, 0) else (0, 2)) := by
  have key : symbol_kind_of.j0 (k + 1) v b B true = some (if 0 ≤ v ∧ v < 2 ^ b.toNat then (B + v, 0) else (0, 2)) := by
    simp only [symbol_kind_of.j0, if_true]
    by_cases hv : v < 0
    · rw [if_pos hv, if_neg (by omega)]
    · rw [if_neg hv, if_pos t0]
      by_cases hw : v < 2 ^ b.toNat
      · rw [if_pos ((shr_zero (by omega) t0 (by omega)).2 hw), if_pos ⟨by omega, hw⟩, wrap_in (by omega) (by omega)]
      · rw [if_neg (fun h => hw ((shr_zero (by omega) t0 (by omega)).1 h)), if_neg (fun h => hw h.2)]
  unfold symbol_DistOf.f symbol_dists.f
  simp only [Option.bind_some]
  unfold symbol_kind_of.f
  rw [hp, top_d]
  simp only [Option.bind_some, Bool.false_eq_true, if_false]
  rw [key]
  rfl
theorem distOf_in (s : Nat) (hs : s < 30) (v : Int) {k : Nat} (hk : 80 ≤ k) :
    symbol_DistOf.f k (s : Int) v = some (if 0 ≤ v ∧ v < 2 ^ (rd sb s).toNat then (rd sB s + v, 0) else (0, 2)) := by
  obtain ⟨k, rfl⟩ : ∃ m, k = m + 1 := ⟨k - 1, by omega⟩
  obtain ⟨t0, t1, t2, t3, t4, t5, t6, t7⟩ := tab_d s hs
  exact distOf_gen s _ _ v k (place_d (by omega) s hs) t0 t1 t3 t4 (by omega)

theorem lives0 : valiselaw07_lives.f 100 = some true := by decide +kernel
theorem lives {k : Nat} (hk : 100 ≤ k) : valiselaw07_lives.f k = some true := at_rounds valiselaw07_lives.mono hk lives0

def okLen (n : Int) : Bool := match symbol_Len.f 90 n with
  | some (s, v, e) => e == 0 && symbol_LenOf.f 90 s v == some (n, 0) && decide (257 ≤ s) && decide (s ≤ 285)
  | none => false
theorem okLens : ∀ n : Fin 256, okLen ((n.1 : Int) + 3) = true := by decide +kernel
theorem len_back (n : Int) (h1 : 3 ≤ n) (h2 : n ≤ 258) {k : Nat} (hk : 90 ≤ k) : ∃ s v, symbol_Len.f k n = some (s, v, 0) ∧ symbol_LenOf.f k s v = some (n, 0) ∧ 257 ≤ s ∧ s ≤ 285 := by
  have h := okLens ⟨(n - 3).toNat, by omega⟩
  have e : (((n - 3).toNat : Nat) : Int) + 3 = n := by omega
  simp only [e] at h
  unfold okLen at h
  split at h
  · rename_i s v e0 hl
    simp only [Bool.and_eq_true, beq_iff_eq, decide_eq_true_eq] at h
    obtain ⟨⟨⟨rfl, h3⟩, h4⟩, h5⟩ := h
    exact ⟨s, v, at_rounds (symbol_Len.mono n) hk hl, at_rounds (symbol_LenOf.mono s v) hk h3, h4, h5⟩
  · cases h
theorem part2 (n : Int) {k : Nat} (hk : 110 ≤ k) : valiselaw07_SymbolBack.j1 k n = some true := by
  obtain ⟨k, rfl⟩ : ∃ m, k = m + 2 := ⟨k - 2, by omega⟩
  by_cases h : n < 1 ∨ 32768 < n
  · have e : valiselaw07_SymbolBack.j1 (k + 2) n = valiselaw07_SymbolBack.j2 (k + 1) n true := by
      simp only [valiselaw07_SymbolBack.j1]
      by_cases h1 : n < 1
      · rw [if_pos h1]
      · have e : decide (n > 32768) = true := by simp; omega
        rw [if_neg h1, e]
    rw [e]
    simp only [valiselaw07_SymbolBack.j2]
    rw [dist_out n h (by omega), lives (by omega)]; rfl
  · have e : decide (n > 32768) = false := by simp; omega
    obtain ⟨s, hs, h1, h2, h3⟩ := dist_in n (by omega) (by omega) (k := k) (by omega)
    obtain ⟨t0, t1, t2, t3, t4, t5, t6, t7⟩ := tab_d s hs
    simp only [valiselaw07_SymbolBack.j1]
    rw [if_neg (by omega), e]
    simp only [valiselaw07_SymbolBack.j2, Bool.false_eq_true, if_false]
    rw [h3]
    simp only [Option.bind_some]
    rw [distOf_in s hs _ (by omega), if_pos ⟨by omega, by omega⟩, lives (by omega)]
    simp only [Option.bind_some]
    rw [if_pos (by omega)]
    simp only [if_true]
    rw [if_pos (by omega), if_pos (by omega)]
theorem SymbolBack : valiselaw07_SymbolBack.Pure := by
  intro n hn
  refine ⟨120, ?_⟩
  unfold valiselaw07_SymbolBack.f
  by_cases h : 3 ≤ n ∧ n ≤ 258
  · have e : decide (n ≤ 258) = true := by simp; omega
    obtain ⟨s, v, h1, h2, h3, h4⟩ := len_back n h.1 h.2 (k := 119) (by omega)
    rw [if_pos h.1, e]
    simp only [valiselaw07_SymbolBack.j0, if_true]
    rw [h1]
    simp only [Option.bind_some]
    rw [h2]
    simp only [Option.bind_some, if_true]
    rw [if_neg (by omega), if_neg (by omega)]
    exact part2 n (by omega)
  · have e : (if n ≥ 3 then valiselaw07_SymbolBack.j0 120 n (decide (n ≤ 258)) else valiselaw07_SymbolBack.j0 120 n false) = valiselaw07_SymbolBack.j0 120 n false := by
      by_cases h1 : n ≥ 3
      · have e : decide (n ≤ 258) = false := by simp; omega
        rw [if_pos h1, e]
      · rw [if_neg h1]
    rw [e]
    simp only [valiselaw07_SymbolBack.j0, Bool.false_eq_true, if_false]
    exact part2 n (by omega)

end Go.Proofs.Ytlnhbdimpjaiiaa.Pure
