import Derived.Test.YtggmffmajgnhkaaPr0
import Derived.Test.YtggmffmajgnhkaaBt3
namespace Go.Proofs.Ytggmffmajgnhkaa.Pr
open Go.RowKit Go.Proofs.YtggmffmajgnhkaaW.PrintWords Go.Proofs.YtggmffmajgnhkaaW.PrintLast Go.Proofs.YtggmffmajgnhkaaW.PrintMore
set_option linter.unusedVariables false
set_option linter.unusedSimpArgs false
set_option maxRecDepth 100000
/-! ### Numbers out of their bits, and turned twice -/
/-- A number out of its own bits. -/
theorem getV_bits {l : List Int} {a c : Nat} {v : Int} (h0 : 0 ≤ v) (hb : ∀ i, i < c → bat l (a + i) = vb v i) : getV l a c = v % 2 ^ c := by
  induction c with
  | zero => simp [getV]
  | succ c ih =>
    rw [getV, ih (fun i hi => hb i (by omega)), hb c (by omega), Int.pow_succ]
    have hp := pow_pos2 c
    have h1 := Int.mul_ediv_add_emod v (2 ^ c)
    have h2 := Int.mul_ediv_add_emod v (2 ^ c * 2)
    have h3 : v / (2 ^ c * 2) = v / 2 ^ c / 2 := (Int.ediv_ediv_of_nonneg (by omega)).symm
    have h4 : v / 2 ^ c = 2 * (v / 2 ^ c / 2) + vb v c := by unfold vb; omega
    rw [h3] at h2
    have h5 : 2 ^ c * 2 * (v / 2 ^ c / 2) = 2 ^ c * (2 * (v / 2 ^ c / 2)) := by rw [Int.mul_assoc]
    have h6 : 2 ^ c * (v / 2 ^ c) = 2 ^ c * (2 * (v / 2 ^ c / 2)) + vb v c * 2 ^ c := by
      conv => lhs; rw [h4]
      rw [Int.mul_add, Int.mul_comm (vb v c)]
    omega
theorem vb_tu (v : Int) : ∀ (j i : Nat), i < j → vb (tu v j) i = vb v (j - 1 - i)
  | j + 1, 0, _ => by
    rw [vb_zero, tu]
    have := vb_01 v j
    rw [show j + 1 - 1 - 0 = j by omega]
    omega
  | j + 1, i + 1, h => by
    rw [vb_half, tu, show (2 * tu v j + vb v j) / 2 = tu v j by have := vb_01 v j; omega, vb_tu v j i (by omega), show j + 1 - 1 - (i + 1) = j - 1 - i by omega]
theorem tu_tu {v : Int} {n : Nat} (h0 : 0 ≤ v) (h1 : v < 2 ^ n) : ∀ m, m ≤ n → tu (tu v n) m = v / 2 ^ (n - m)
  | 0, _ => by rw [tu, Nat.sub_zero, div_small h0 h1]
  | m + 1, hm => by
    rw [tu, tu_tu h0 h1 m (by omega), vb_tu v n m (by omega)]
    obtain ⟨d, hd⟩ : ∃ d, n - m = d + 1 := ⟨n - m - 1, by omega⟩
    rw [hd, show n - (m + 1) = d by omega, show n - 1 - m = d by omega]
    exact (vb_step v d).symm
end Go.Proofs.Ytggmffmajgnhkaa.Pr
