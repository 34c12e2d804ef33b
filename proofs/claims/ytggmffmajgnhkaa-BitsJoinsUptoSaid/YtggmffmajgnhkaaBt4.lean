import Derived.Test.YtggmffmajgnhkaaPr0
import Derived.Test.YtggmffmajgnhkaaPr4
import Derived.Test.YtggmffmajgnhkaaPr12
import Derived.Test.YtggmffmajgnhkaaPr28
import Derived.Test.YtggmffmajgnhkaaPr29
import Derived.Test.YtggmffmajgnhkaaPr31
import Derived.Test.YtggmffmajgnhkaaBt3
namespace Go.Proofs.Ytggmffmajgnhkaa.Pr
open Go.RowKit Go.Proofs.YtggmffmajgnhkaaW.PrintWords Go.Proofs.YtggmffmajgnhkaaW.PrintLast Go.Proofs.YtggmffmajgnhkaaW.PrintMore
set_option linter.unusedVariables false
set_option linter.unusedSimpArgs false
set_option maxRecDepth 100000
/-! ### Rows behind one another -/
/-- The bits i, i + 1, .. of a row. -/
def bitsL (l : List Int) (i : Nat) : Nat → List Int
  | 0 => []
  | c + 1 => bat l i :: bitsL l (i + 1) c
theorem bitsL_len (v : List Int) (i c : Nat) : (bitsL v i c).length = c := by
  induction c generalizing i with
  | zero => rfl
  | succ c ih => rw [bitsL, List.length_cons, ih]
theorem bitsL_01 (v : List Int) (i c : Nat) : ∀ b ∈ bitsL v i c, b = 0 ∨ b = 1 := by
  induction c generalizing i with
  | zero => intro b hb; cases hb
  | succ c ih =>
    intro b hb
    rw [bitsL, List.mem_cons] at hb
    rcases hb with rfl | hb
    · exact bat_01 _ _
    · exact ih _ b hb
theorem bitsL_get (v : List Int) (i c j : Nat) (hj : j < c) : (bitsL v i c).getD j 0 = bat v (i + j) := by
  induction c generalizing i j with
  | zero => omega
  | succ c ih =>
    cases j with
    | zero => rfl
    | succ j =>
      rw [bitsL]
      have := ih (i + 1) j (by omega)
      simp only [List.getD_cons_succ]
      rw [this, show i + 1 + j = i + (j + 1) by omega]
theorem joinl_eq {lm : List Int} {nm : Nat} (hm : Rgt lm nm) (hnm : nm ≤ 1125899906842624) : ∀ (d k i : Nat) {l : List Int} {n : Nat}, i + d = nm → d < k → Rgt l n → n + d ≤ 1125899906842616 →
    bits_Join.l0 k l (n : Int) lm (nm : Int) (i : Int) = some (layA l n (bitsL lm i d), ((n + d : Nat) : Int)) := by
  intro d
  induction d with
  | zero =>
    intro k i l n hi hk h hn
    obtain ⟨k, rfl⟩ : ∃ m, k = m + 1 := ⟨k - 1, by omega⟩
    simp only [bits_Join.l0]
    rw [if_neg (by omega)]
    rfl
  | succ d ih =>
    intro k i l n hi hk h hn
    obtain ⟨k, rfl⟩ : ∃ m, k = m + 1 := ⟨k - 1, by omega⟩
    have hl := hm.2.1
    simp only [bits_Join.l0]
    rw [if_pos (by omega), bit_eq hm.1 _ i (by omega) (by omega)]
    simp only [Option.bind_some]
    rw [put1_eq h (bat_01 lm i) (by omega)]
    simp only [Option.bind_some]
    rw [show wrap64 ((i : Int) + 1) = ((i + 1 : Nat) : Int) by rw [wrapid (by omega) (by omega)]; omega]
    rw [ih k (i + 1) (by omega) (by omega) (lay_rgt h (bat_01 lm i)) (by omega), bitsL, layA, show n + 1 + d = n + (d + 1) by omega]
def joinS (l : List Int) (n : Int) (lm : List Int) (nm : Int) : List Int × Int × Int := if (okR l n && okR lm nm) = true then (layA l n.toNat (bitsL lm 0 nm.toNat), n + nm, 0) else ([], 0, 2)
theorem join_eq {k : Nat} {l : List Int} {n : Int} {lm : List Int} {nm : Int} (hk1 : 1 ≤ k) (hk : nm < k) (hb : Byt l) (hbm : Byt lm) (hl : l.length + lm.length ≤ 140737488355000) (h0 : -9223372036854775808 ≤ n) (h1 : n ≤ 9223372036854775807) (h2 : -9223372036854775808 ≤ nm) (h3 : nm ≤ 9223372036854775807) : bits_Join.f k l n lm nm = some (joinS l n lm nm) := by
  unfold bits_Join.f joinS
  rw [check_eq hk1 hb (by omega) h0 h1]
  simp only [Option.bind_some]
  cases hr : okR l n with
  | false => simp
  | true =>
    simp only [if_true]
    rw [check_eq hk1 hbm (by omega) h2 h3]
    simp only [Option.bind_some]
    cases hr2 : okR lm nm with
    | false => simp
    | true =>
      obtain ⟨r1, r2⟩ := (okR_iff hb).1 hr
      obtain ⟨s1, s2⟩ := (okR_iff hbm).1 hr2
      obtain ⟨m, rfl⟩ : ∃ m : Nat, n = (m : Int) := ⟨n.toNat, by omega⟩
      obtain ⟨d, rfl⟩ : ∃ m : Nat, nm = (m : Int) := ⟨nm.toNat, by omega⟩
      rw [Int.toNat_natCast] at r2 s2
      have hm := r2.2.1
      have hm2 := s2.2.1
      simp only [if_true, slices_Clone_byte_byte.f, Bool.and_self]
      rw [if_pos (show l.length < 140737488355328 by omega)]
      simp only [Option.bind_some]
      have := joinl_eq s2 (by omega) d k 0 (by omega) (by omega) r2 (by omega)
      rw [show (0 : Int) = ((0 : Nat) : Int) from rfl, this]
      simp only [Option.bind_some, Int.toNat_natCast]
      rw [Int.natCast_add]
theorem of_eq {l : List Int} (hl : l.length < 140737488355328) : bits_Of.f l = some (l, 8 * (l.length : Int)) := by
  unfold bits_Of.f slices_Clone_byte_byte.f
  rw [if_pos hl]
  simp only [Option.bind_some]
  rw [wrapid (by omega) (by omega)]
def alignS (l : List Int) (n : Int) : List Int × Int × Int := if okR l n = true then (l, 8 * (l.length : Int), 0) else ([], 0, 2)
theorem align_eq {k : Nat} (hk : 1 ≤ k) {l : List Int} {n : Int} (hb : Byt l) (hl : l.length < 140737488355328) (h0 : -9223372036854775808 ≤ n) (h1 : n ≤ 9223372036854775807) : bits_Align.f k l n = some (alignS l n) := by
  unfold bits_Align.f alignS
  rw [check_eq hk hb (by omega) h0 h1]
  simp only [Option.bind_some]
  cases hr : okR l n with
  | false => simp
  | true => rw [of_eq hl]; simp
theorem same_eq (l : List Int) (n : Int) : valiseref01_Same.f l n l n = some true := by
  unfold valiseref01_Same.f
  rw [if_pos rfl]
  simp
end Go.Proofs.Ytggmffmajgnhkaa.Pr
