import Derived.Test.YtggmffmajgnhkaaPr0
import Derived.Test.YtggmffmajgnhkaaPr33
import Derived.Test.YtggmffmajgnhkaaPr34
import Derived.Test.YtggmffmajgnhkaaBt4
import Derived.Test.YtggmffmajgnhkaaBt3r
namespace Go.Proofs.Ytggmffmajgnhkaa.Pr
open Go.RowKit Go.Proofs.YtggmffmajgnhkaaW.PrintWords Go.Proofs.YtggmffmajgnhkaaW.PrintLast Go.Proofs.YtggmffmajgnhkaaW.PrintMore
set_option linter.unusedVariables false
set_option linter.unusedSimpArgs false
set_option maxRecDepth 100000
theorem refJoinl_eq {lm : List Int} {nm : Nat} (hm : Rgt lm nm) (hnm : nm ≤ 1125899906842624) : ∀ (d k i : Nat) {l : List Int} {n : Nat}, i + d = nm → d < k → Rgt l n → n + d ≤ 1125899906842616 →
    valiseref01_Join.l0 k (i : Int) lm (nm : Int) l (n : Int) = some (layA l n (bitsL lm i d), ((n + d : Nat) : Int), 0) := by
  intro d
  induction d with
  | zero =>
    intro k i l n hi hk h hn
    obtain ⟨k, rfl⟩ : ∃ m, k = m + 1 := ⟨k - 1, by omega⟩
    simp only [valiseref01_Join.l0]
    rw [if_neg (by omega)]
    rfl
  | succ d ih =>
    intro k i l n hi hk h hn
    obtain ⟨k, rfl⟩ : ∃ m, k = m + 1 := ⟨k - 1, by omega⟩
    have hl := hm.2.1
    simp only [valiseref01_Join.l0]
    rw [if_pos (by omega), refBit_eq hm.1 _ i (by omega) (by omega)]
    simp only [Option.bind_some]
    rw [with_eq h (bat_01 lm i) (by omega)]
    simp only [Option.bind_some]
    rw [show wrap64 ((i : Int) + 1) = ((i + 1 : Nat) : Int) by rw [wrapid (by omega) (by omega)]; omega]
    rw [ih k (i + 1) (by omega) (by omega) (lay_rgt h (bat_01 lm i)) (by omega), bitsL, layA, show n + 1 + d = n + (d + 1) by omega]
theorem refJoin_eq {k : Nat} {l : List Int} {n : Int} {lm : List Int} {nm : Int} (hk1 : 2 ≤ k) (hk : nm + 1 < k) (hb : Byt l) (hbm : Byt lm) (hl : l.length + lm.length ≤ 140737488355000) (h0 : -9223372036854775808 ≤ n) (h1 : n ≤ 9223372036854775807) (h2 : -9223372036854775808 ≤ nm) (h3 : nm ≤ 9223372036854775807) : valiseref01_Join.f k l n lm nm = some (joinS l n lm nm) := by
  obtain ⟨k, rfl⟩ : ∃ m, k = m + 1 := ⟨k - 1, by omega⟩
  unfold valiseref01_Join.f joinS
  rw [right_eq hb (by omega) h0 h1]
  simp only [Option.bind_some]
  cases hr : okR l n with
  | false => simp [valiseref01_Join.j0]
  | true =>
    simp only [if_true]
    rw [right_eq hbm (by omega) h2 h3]
    simp only [Option.bind_some]
    cases hr2 : okR lm nm with
    | false => simp [valiseref01_Join.j0]
    | true =>
      obtain ⟨r1, r2⟩ := (okR_iff hb).1 hr
      obtain ⟨s1, s2⟩ := (okR_iff hbm).1 hr2
      obtain ⟨m, rfl⟩ : ∃ m : Nat, n = (m : Int) := ⟨n.toNat, by omega⟩
      obtain ⟨d, rfl⟩ : ∃ m : Nat, nm = (m : Int) := ⟨nm.toNat, by omega⟩
      rw [Int.toNat_natCast] at r2 s2
      have hm := r2.2.1
      have hm2 := s2.2.1
      simp only [valiseref01_Join.j0, Bool.not_true, Bool.false_eq_true, if_false, Bool.and_self, if_true]
      rw [copy_eq (by omega)]
      simp only [Option.bind_some]
      have := refJoinl_eq s2 (by omega) d k 0 (by omega) (by omega) r2 (by omega)
      rw [show (0 : Int) = ((0 : Nat) : Int) from rfl, this]
      simp only [Int.toNat_natCast]
      rw [Int.natCast_add]
      rfl
theorem set_same {l : List Int} {i : Nat} (hi : i < l.length) : l.set i (l.getD i 0) = l := by
  refine List.ext_getElem (by rw [List.length_set]) (fun j h1 h2 => ?_)
  rw [List.getElem_set]
  by_cases h : i = j
  · subst h
    rw [if_pos rfl, List.getD_eq_getElem?_getD, List.getElem?_eq_getElem hi]; rfl
  · rw [if_neg h]
theorem lay_zero {l : List Int} {n : Nat} (h : Rgt l n) (h8 : n % 8 ≠ 0) : lay l n 0 = l := by
  have hl := h.2.1
  unfold lay
  rw [if_neg h8, Int.zero_mul, Int.add_zero, set_same (by omega)]
theorem refAlignl_eq {l : List Int} : ∀ (d k n : Nat), n + d = 8 * l.length → d < 8 → d < k → Rgt l n → l.length ≤ 140737488355000 → valiseref01_Align.l0 k l (n : Int) = some (l, 8 * (l.length : Int), 0) := by
  intro d
  induction d with
  | zero =>
    intro k n hn hd hk h hl
    obtain ⟨k, rfl⟩ : ∃ m, k = m + 1 := ⟨k - 1, by omega⟩
    simp only [valiseref01_Align.l0]
    rw [tmod8, if_pos (by omega), show (n : Int) = 8 * (l.length : Int) by omega]
  | succ d ih =>
    intro k n hn hd hk h hl
    obtain ⟨k, rfl⟩ : ∃ m, k = m + 1 := ⟨k - 1, by omega⟩
    have h1 := lay_zero h (by omega)
    have h2 := lay_rgt h (b := 0) (.inl rfl)
    rw [h1] at h2
    simp only [valiseref01_Align.l0]
    rw [tmod8, if_neg (by omega), with_eq h (.inl rfl) (by omega), h1]
    simp only [Option.bind_some]
    exact ih k (n + 1) (by omega) (by omega) (by omega) h2 hl
theorem refAlign_eq {k : Nat} (hk : 9 ≤ k) {l : List Int} {n : Int} (hb : Byt l) (hl : l.length ≤ 140737488355000) (h0 : -9223372036854775808 ≤ n) (h1 : n ≤ 9223372036854775807) : valiseref01_Align.f k l n = some (alignS l n) := by
  unfold valiseref01_Align.f alignS
  rw [right_eq hb (by omega) h0 h1]
  simp only [Option.bind_some]
  cases hr : okR l n with
  | false => simp
  | true =>
    obtain ⟨r1, r2⟩ := (okR_iff hb).1 hr
    obtain ⟨m, rfl⟩ : ∃ m : Nat, n = (m : Int) := ⟨n.toNat, by omega⟩
    rw [Int.toNat_natCast] at r2
    have hm := r2.2.1
    rw [copy_eq (by omega)]
    simp only [if_true, Option.bind_some]
    exact refAlignl_eq (8 * l.length - m) k m (by omega) (by omega) (by omega) r2 hl
end Go.Proofs.Ytggmffmajgnhkaa.Pr
