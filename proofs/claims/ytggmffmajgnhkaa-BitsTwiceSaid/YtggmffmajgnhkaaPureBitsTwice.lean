/- What is turned twice is as it was; the first bit of a number is the last one of the turned one. No condition. -/
import Derived.Test.YtggmffmajgnhkaaPr0
import Derived.Test.YtggmffmajgnhkaaPr5
import Derived.Test.YtggmffmajgnhkaaPr6
import Derived.Test.YtggmffmajgnhkaaBt5
namespace Go.Proofs.Ytggmffmajgnhkaa.Pure
open Go.RowKit Go.Proofs.Ytggmffmajgnhkaa.Pr Go.Proofs.YtggmffmajgnhkaaW.PrintWords Go.Proofs.YtggmffmajgnhkaaW.PrintLast Go.Proofs.YtggmffmajgnhkaaW.PrintMore
set_option linter.unusedVariables false
set_option linter.unusedSimpArgs false
set_option maxRecDepth 100000
theorem i64_bounds {a : Int} (h : (Lit.int .i64 a).wf = true) : -9223372036854775808 ≤ a ∧ a ≤ 9223372036854775807 := by
  have h2 : IntKind.i64.min ≤ a ∧ a ≤ IntKind.i64.max := by simpa [Lit.wf] using h
  have e1 : IntKind.i64.min = -9223372036854775808 := by decide +kernel
  have e2 : IntKind.i64.max = 9223372036854775807 := by decide +kernel
  omega
theorem lives0 : valiselaw01_lives.f 60 = some true := by decide +kernel
theorem lives {k : Nat} (hk : 60 ≤ k) : valiselaw01_lives.f k = some true := at_rounds valiselaw01_lives.mono hk lives0
theorem BitsTwice : valiselaw01_BitsTwice.Pure := by
  intro v n hv hn
  obtain ⟨y0, y1⟩ := i64_bounds hv
  refine ⟨60, ?_⟩
  unfold valiselaw01_BitsTwice.f
  rw [turn_eq (by omega) v n y1, lives (Nat.le_refl _)]
  simp only [Option.bind_some]
  unfold turnS
  cases hf : fitB v n 16 with
  | false => simp
  | true =>
    obtain ⟨f1, f2, f3, f4⟩ := fitB_iff.1 hf
    obtain ⟨d, rfl⟩ : ∃ m : Nat, n = (m : Int) := ⟨n.toNat, by omega⟩
    rw [Int.toNat_natCast] at f4
    obtain ⟨t0, t1⟩ := tu_range v d
    have h40 := pow_le2 (show d ≤ 40 by omega)
    have e40 : (2 : Int) ^ 40 = 1099511627776 := by decide
    rw [e40] at h40
    have hf2 : fitB (tu v d) (d : Int) 16 = true := fitB_iff.2 ⟨by omega, by omega, t0, by rw [Int.toNat_natCast]; exact t1⟩
    have ht : turnS (tu v d) (d : Int) = (v, 0) := by
      unfold turnS
      rw [hf2, Int.toNat_natCast]
      have := tu_tu f3 f4 d (Nat.le_refl _)
      rw [this]
      simp
    simp only [if_true, Int.toNat_natCast]
    rw [turn_eq (by omega) (tu v d) (d : Int) (by omega), ht]
    simp only [Option.bind_some, if_true]
    by_cases h0 : (d : Int) = 0
    · rw [if_pos h0]
    · rw [if_neg h0]
      have e1 : wrap64 ((d : Int) - 1) = ((d - 1 : Nat) : Int) := by rw [wrapid (by omega) (by omega)]; omega
      rw [e1, if_pos (by omega), shr_eq _ _ (by omega), and1 v f3 y1]
      have h1 : tu v d / 2 ^ (d - 1) = vb (tu v d) (d - 1) := by
        have := vb_step (tu v d) (d - 1)
        rw [show d - 1 + 1 = d by omega, div_small t0 t1] at this
        omega
      rw [h1, vb_tu v d (d - 1) (by omega), show d - 1 - (d - 1) = 0 by omega, vb_zero, if_pos rfl]
end Go.Proofs.Ytggmffmajgnhkaa.Pure
