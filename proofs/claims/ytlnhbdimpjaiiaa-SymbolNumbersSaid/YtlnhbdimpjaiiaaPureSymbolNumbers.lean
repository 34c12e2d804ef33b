/- The number beside a symbol of a distance fits its bits, and every number that fits is told of a distance of its own. No condition. -/
import Derived.Test.YtlnhbdimpjaiiaaPSymbolNumbersx4
namespace Go.Proofs.Ytlnhbdimpjaiiaa.Pure
open Go.RowKit Go.Proofs.Ytlnhbdimpjaiiaa.PSymbolNumbers Go.Proofs.YtlnhbdimpjaiiaaW.PrintWords Go.Proofs.YtlnhbdimpjaiiaaW.PrintLast
set_option maxRecDepth 100000

theorem i64_bounds {a : Int} (h : (Lit.int .i64 a).wf = true) : -9223372036854775808 ≤ a ∧ a ≤ 9223372036854775807 := by
  have h2 : IntKind.i64.min ≤ a ∧ a ≤ IntKind.i64.max := by simpa [Lit.wf] using h
  have e1 : IntKind.i64.min = -9223372036854775808 := by decide +kernel
  have e2 : IntKind.i64.max = 9223372036854775807 := by decide +kernel
  omega

/-- The first distance of each symbol, and one past the last. -/
def sB : List Int := [1, 2, 3, 4, 5, 7, 9, 13, 17, 25, 33, 49, 65, 97, 129, 193, 257, 385, 513, 769, 1025, 1537, 2049, 3073, 4097, 6145, 8193, 12289, 16385, 24577, 32769]
/-- The bits beside each symbol of a distance. -/
def sb : List Int := [0, 0, 0, 0, 1, 1, 2, 2, 3, 3, 4, 4, 5, 5, 6, 6, 7, 7, 8, 8, 9, 9, 10, 10, 11, 11, 12, 12, 13, 13]
theorem place_d0 : ∀ i : Fin 30, symbol_kind_place.f 40 0 4 2 13 1 ((i.1 : Nat) : Int) = some (rd sb (i.1 : Nat), rd sB (i.1 : Nat), true) := by decide +kernel
theorem place_d {k : Nat} (hk : 40 ≤ k) (i : Nat) (hi : i < 30) : symbol_kind_place.f k 0 4 2 13 1 (i : Int) = some (rd sb i, rd sB i, true) :=
  at_rounds (symbol_kind_place.mono 0 4 2 13 1 (i : Int)) hk (place_d0 ⟨i, hi⟩)
theorem tab_d0 : ∀ i : Fin 30, 0 ≤ rd sb (i.1 : Nat) ∧ rd sb (i.1 : Nat) ≤ 13 ∧ rd sB (i.1 : Nat) + shl .i64 1 (rd sb (i.1 : Nat)) = rd sB ((i.1 : Nat) + 1 : Nat) ∧ 1 ≤ rd sB (i.1 : Nat) ∧ rd sB (i.1 : Nat) ≤ 32768 ∧ 2 ≤ rd sB ((i.1 : Nat) + 1 : Nat) ∧ rd sB ((i.1 : Nat) + 1 : Nat) ≤ 32769 ∧ shl .i64 1 (rd sb (i.1 : Nat)) = 2 ^ (rd sb (i.1 : Nat)).toNat := by decide +kernel
theorem tab_d (i : Nat) (hi : i < 30) : 0 ≤ rd sb i ∧ rd sb i ≤ 13 ∧ rd sB i + shl .i64 1 (rd sb i) = rd sB (i + 1 : Nat) ∧ 1 ≤ rd sB i ∧ rd sB i ≤ 32768 ∧ 2 ≤ rd sB (i + 1 : Nat) ∧ rd sB (i + 1 : Nat) ≤ 32769 ∧ shl .i64 1 (rd sb i) = 2 ^ (rd sb i).toNat := tab_d0 ⟨i, hi⟩
theorem rises_d0 : ∀ i : Fin 31, ∀ j : Fin 31, i.1 ≤ j.1 → rd sB (i.1 : Nat) ≤ rd sB (j.1 : Nat) := by decide +kernel
theorem rises_d {i j : Nat} (hj : j ≤ 30) (h : i ≤ j) : rd sB i ≤ rd sB j := rises_d0 ⟨i, by omega⟩ ⟨j, by omega⟩ h
theorem wrap_in {x : Int} (h0 : -9223372036854775808 ≤ x) (h1 : x ≤ 9223372036854775807) : wrap64 x = x := by unfold wrap64; omega
theorem find_d (n : Int) (hn : n ≤ 32768) : ∀ (d k i : Nat), i + d = 30 → rd sB i ≤ n → 42 + d ≤ k →
    ∃ s : Nat, i ≤ s ∧ s < 30 ∧ rd sB s ≤ n ∧ n < rd sB (s + 1 : Nat) ∧ symbol_kind_find.l0 k n 30 (i : Int) 0 4 2 13 1 = some ((s : Int), n - rd sB s) := by
  intro d
  induction d with
  | zero =>
    intro k i hd hB hk
    have h30 : rd sB (30 : Nat) = 32769 := by decide +kernel
    have : i = 30 := by omega
    subst this
    omega
  | succ d ih =>
    intro k i hd hB hk
    obtain ⟨k, rfl⟩ : ∃ m, k = m + 1 := ⟨k - 1, by omega⟩
    obtain ⟨t0, t1, t2, t3, t4, t5, t6, _⟩ := tab_d i (by omega)
    have hs : ((i : Nat) : Int) < 30 := by omega
    by_cases hlt : n < rd sB (i + 1 : Nat)
    · refine ⟨i, Nat.le_refl _, by omega, hB, hlt, ?_⟩
      simp only [symbol_kind_find.l0]
      rw [if_pos hs, wrap_in (by omega) (by omega), Int.zero_add, place_d (by omega) i (by omega)]
      simp only [Option.bind_some]
      rw [if_pos t0, wrap_in (by omega) (by omega), if_pos (by omega)]
    · obtain ⟨s, h1, h2, h3, h4, h5⟩ := ih k (i + 1) (by omega) (by omega) (by omega)
      refine ⟨s, by omega, h2, h3, h4, ?_⟩
      simp only [symbol_kind_find.l0]
      rw [if_pos hs, wrap_in (x := 0 + (i : Int)) (by omega) (by omega), Int.zero_add, place_d (by omega) i (by omega)]
      simp only [Option.bind_some]
      rw [if_pos t0, wrap_in (x := n - rd sB i) (by omega) (by omega), if_neg (by omega), wrap_in (by omega) (by omega)]
      exact h5
theorem dist_in (n : Int) (h1 : 1 ≤ n) (h2 : n ≤ 32768) {k : Nat} (hk : 80 ≤ k) : ∃ s : Nat, s < 30 ∧ rd sB s ≤ n ∧ n < rd sB (s + 1 : Nat) ∧ symbol_Dist.f k n = some ((s : Int), n - rd sB s, 0) := by
  obtain ⟨k, rfl⟩ : ∃ m, k = m + 1 := ⟨k - 1, by omega⟩
  obtain ⟨s, _, hs, h3, h4, h5⟩ := find_d n h2 30 k 0 rfl (by rw [show rd sB (0 : Nat) = 1 by decide +kernel]; exact h1) (by omega)
  refine ⟨s, hs, h3, h4, ?_⟩
  unfold symbol_Dist.f
  rw [if_neg (by omega)]
  simp only [symbol_Dist.j0]
  have e : decide (n > 32768) = false := by simp; omega
  have e4 : wrap64 (4 + wrap64 (2 * 13)) = 30 := by decide +kernel
  rw [e]
  simp only [symbol_dists.f, Option.bind_some, symbol_kind_find.f, e4, Bool.false_eq_true, if_false]
  have h5' : symbol_kind_find.l0 k n 30 0 0 4 2 13 1 = some ((s : Int), n - rd sB s) := h5
  rw [h5']
  simp only [Option.bind_some]
theorem dist_out (n : Int) (h : n < 1 ∨ 32768 < n) {k : Nat} (hk : 80 ≤ k) : symbol_Dist.f k n = some (0, 0, 2) := by
  obtain ⟨k, rfl⟩ : ∃ m, k = m + 1 := ⟨k - 1, by omega⟩
  unfold symbol_Dist.f
  by_cases h1 : n < 1
  · rw [if_pos h1]; simp only [symbol_Dist.j0]; rfl
  · have e : decide (n > 32768) = true := by simp; omega
    rw [if_neg h1, e]; simp only [symbol_Dist.j0]; rfl

theorem place_out (sym : Int) (h0 : -9223372036854775808 ≤ sym) (h1 : sym ≤ 9223372036854775807) (h : sym < 0 ∨ 29 < sym) {k : Nat} (hk : 1 ≤ k) : symbol_kind_place.f k 0 4 2 13 1 sym = some (0, 0, false) := by
  obtain ⟨k, rfl⟩ : ∃ m, k = m + 1 := ⟨k - 1, by omega⟩
  unfold symbol_kind_place.f
  by_cases h2 : sym < 0
  · rw [if_pos h2]; simp only [symbol_kind_place.j0]; rfl
  · have e4 : wrap64 (4 + wrap64 (2 * 13)) = 30 := by decide +kernel
    have e : decide (wrap64 (sym - 0) ≥ wrap64 (4 + wrap64 (2 * 13))) = true := by rw [e4, wrap_in (by omega) (by omega)]; simp; omega
    rw [if_neg h2, e]; simp only [symbol_kind_place.j0]; rfl
theorem top_d (sym : Int) : symbol_kind_top.f 0 4 2 13 1 sym = some false := by unfold symbol_kind_top.f symbol_lens.f; rfl
theorem shr_zero {v b : Int} (h0 : 0 ≤ v) (hb : 0 ≤ b) (hb2 : b ≤ 13) : shr .i64 v b = 0 ↔ v < 2 ^ b.toNat := by
  have e : min b.toNat IntKind.i64.bits = b.toNat := Nat.min_eq_left (by simp only [IntKind.bits]; omega)
  have hp : (0 : Int) < 2 ^ b.toNat := Int.pow_pos (by omega)
  unfold shr
  rw [e]
  constructor
  · intro h
    have := Int.lt_mul_ediv_self_add (x := v) hp
    rw [h] at this
    omega
  · exact fun h => Int.ediv_eq_zero_of_lt h0 h
theorem distOf_out (sym v : Int) (h0 : -9223372036854775808 ≤ sym) (h1 : sym ≤ 9223372036854775807) (h : sym < 0 ∨ 29 < sym) {k : Nat} (hk : 80 ≤ k) : symbol_DistOf.f k sym v = some (0, 13) := by
  obtain ⟨k, rfl⟩ : ∃ m, k = m + 1 := ⟨k - 1, by omega⟩
  unfold symbol_DistOf.f symbol_dists.f
  simp only [Option.bind_some]
  unfold symbol_kind_of.f
  rw [place_out sym h0 h1 h (by omega), top_d]
  simp only [Option.bind_some, symbol_kind_of.j0]
  rfl
theorem distOf_gen (s b B v : Int) (k : Nat) (hp : symbol_kind_place.f (k + 1) 0 4 2 13 1 s = some (b, B, true)) (t0 : 0 ≤ b) (t1 : b ≤ 13) (t3 : 1 ≤ B) (t4 : B ≤ 32768) (t5 : (2 : Int) ^ b.toNat ≤ 32768) :
    symbol_DistOf.f (k + 1) s v = some (if 0 ≤ v ∧ v < 2 ^ b.toNat then (B + v, 0) else (0, 2)) := by
  have key : symbol_kind_of.j0 (k + 1) v b B true = some (if 0 ≤ v ∧ v < 2 ^ b.toNat then (B + v, 0) else (0, 2)) := by
    simp only [symbol_kind_of.j0, if_true]
    by_cases hv : v < 0
    · rw [if_pos hv, if_neg (by omega)]
    · rw [if_neg hv, if_pos t0]
      by_cases hw : v < 2 ^ b.toNat
      · rw [if_pos ((shr_zero (by omega) t0 (by omega)).2 hw), if_pos ⟨by omega, hw⟩, wrap_in (by omega) (by omega)]
      · rw [if_neg (fun h => hw ((shr_zero (by omega) t0 (by omega)).1 h)), if_neg (fun h => hw h.2)]
  unfold symbol_DistOf.f symbol_dists.f
  simp only [Option.bind_some]
  unfold symbol_kind_of.f
  rw [hp, top_d]
  simp only [Option.bind_some, Bool.false_eq_true, if_false]
  rw [key]
  rfl
theorem distOf_in (s : Nat) (hs : s < 30) (v : Int) {k : Nat} (hk : 80 ≤ k) :
    symbol_DistOf.f k (s : Int) v = some (if 0 ≤ v ∧ v < 2 ^ (rd sb s).toNat then (rd sB s + v, 0) else (0, 2)) := by
  obtain ⟨k, rfl⟩ : ∃ m, k = m + 1 := ⟨k - 1, by omega⟩
  obtain ⟨t0, t1, t2, t3, t4, t5, t6, t7⟩ := tab_d s hs
  exact distOf_gen s _ _ v k (place_d (by omega) s hs) t0 t1 t3 t4 (by omega)

theorem distBits_out (sym : Int) (h0 : -9223372036854775808 ≤ sym) (h1 : sym ≤ 9223372036854775807) (h : sym < 0 ∨ 29 < sym) {k : Nat} (hk : 80 ≤ k) : symbol_DistBits.f k sym = some (0, 13) := by
  unfold symbol_DistBits.f symbol_dists.f
  simp only [Option.bind_some]
  unfold symbol_kind_bits.f
  rw [place_out sym h0 h1 h (by omega), top_d]
  rfl
theorem distBits_gen (s b B : Int) (k : Nat) (hp : symbol_kind_place.f k 0 4 2 13 1 s = some (b, B, true)) : symbol_DistBits.f k s = some (b, 0) := by
  unfold symbol_DistBits.f symbol_dists.f
  simp only [Option.bind_some]
  unfold symbol_kind_bits.f
  rw [hp, top_d]
  rfl
theorem distBits_in (s : Nat) (hs : s < 30) {k : Nat} (hk : 80 ≤ k) : symbol_DistBits.f k (s : Int) = some (rd sb s, 0) :=
  distBits_gen s _ _ k (place_d (by omega) s hs)

theorem lives0 : valiselaw07_lives.f 100 = some true := by decide +kernel
theorem lives {k : Nat} (hk : 100 ≤ k) : valiselaw07_lives.f k = some true := at_rounds valiselaw07_lives.mono hk lives0

theorem law_in (sym v b n f : Int) (hb : symbol_DistBits.f 120 sym = some (b, 0)) (hf : symbol_DistOf.f 120 sym v = some (n, f)) : valiselaw07_SymbolNumbers.f 120 sym v =
    (if v < 0 then valiselaw07_SymbolNumbers.j0 120 sym v n f true else if 0 ≤ b then valiselaw07_SymbolNumbers.j0 120 sym v n f (shr .i64 v b != 0) else none) := by
  unfold valiselaw07_SymbolNumbers.f
  rw [hb]
  simp only [Option.bind_some, if_true]
  rw [hf]
  simp only [Option.bind_some]
theorem law_out (sym v : Int) (h : sym < 0 ∨ 29 < sym) (hb : symbol_DistBits.f 120 sym = some (0, 13)) : valiselaw07_SymbolNumbers.f 120 sym v = some true := by
  unfold valiselaw07_SymbolNumbers.f
  rw [hb, lives (by omega)]
  simp only [Option.bind_some, show ¬ ((13 : Int) = 0) by omega, if_false, if_true]
  by_cases h1 : sym < 0
  · rw [if_pos h1]
  · rw [if_neg h1, if_pos (by omega)]
theorem j0_bad (sym v : Int) : valiselaw07_SymbolNumbers.j0 120 sym v 0 2 true = some true := by
  simp only [valiselaw07_SymbolNumbers.j0, if_true]
  rw [lives (by omega)]; rfl
theorem j0_good (sym v n : Int) (h : symbol_Dist.f 119 n = some (sym, v, 0)) : valiselaw07_SymbolNumbers.j0 120 sym v n 0 false = some true := by
  simp only [valiselaw07_SymbolNumbers.j0, Bool.false_eq_true, if_false]
  rw [h, lives (by omega)]
  simp only [Option.bind_some, if_true]
theorem SymbolNumbers : valiselaw07_SymbolNumbers.Pure := by
  intro sym v hsym hv
  obtain ⟨y0, y1⟩ := i64_bounds hsym
  refine ⟨120, ?_⟩
  by_cases h : sym < 0 ∨ 29 < sym
  · exact law_out sym v h (distBits_out sym y0 y1 h (by omega))
  · obtain ⟨s, rfl⟩ : ∃ s : Nat, sym = (s : Int) := ⟨sym.toNat, by omega⟩
    have hs : s < 30 := by omega
    obtain ⟨t0, t1, t2, t3, t4, t5, t6, t7⟩ := tab_d s hs
    have hb := distBits_in s hs (k := 120) (by omega)
    have hof := distOf_in s hs v (k := 120) (by omega)
    by_cases hf : 0 ≤ v ∧ v < 2 ^ (rd sb s).toNat
    · rw [if_pos hf] at hof
      have e : (shr .i64 v (rd sb s) != 0) = false := by rw [bne_eq_false_iff_eq]; exact (shr_zero hf.1 t0 t1).2 hf.2
      rw [law_in (s : Int) v _ _ _ hb hof, if_neg (by omega), if_pos t0, e]
      have hv2 : v < rd sB (s + 1 : Nat) - rd sB s := by omega
      obtain ⟨s', hs', a1, a2, a3⟩ := dist_in (rd sB s + v) (by omega) (by omega) (k := 119) (by omega)
      have hss : s' = s := by
        rcases Nat.lt_or_ge s' s with hlt | hge
        · have := rises_d (i := s' + 1) (j := s) (by omega) hlt
          omega
        · rcases Nat.lt_or_ge s s' with hlt | hge2
          · have := rises_d (i := s + 1) (j := s') (by omega) hlt
            omega
          · omega
      subst hss
      rw [show rd sB s' + v - rd sB s' = v by omega] at a3
      exact j0_good _ _ _ a3
    · rw [if_neg hf] at hof
      rw [law_in (s : Int) v _ _ _ hb hof]
      by_cases h1 : v < 0
      · rw [if_pos h1]; exact j0_bad _ _
      · have e : (shr .i64 v (rd sb s) != 0) = true := by
          rw [bne_iff_ne]; exact fun h => hf ⟨by omega, (shr_zero (by omega) t0 t1).1 h⟩
        rw [if_neg h1, if_pos t0, e]; exact j0_bad _ _

end Go.Proofs.Ytlnhbdimpjaiiaa.Pure
