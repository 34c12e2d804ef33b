/- Any number is turned as the document says, or refused: both compute the number of the first bits, turned. No condition. -/
import Derived.Test.YtggmffmajgnhkaaPr0
import Derived.Test.YtggmffmajgnhkaaPr5
import Derived.Test.YtggmffmajgnhkaaPr6
import Derived.Test.YtggmffmajgnhkaaBt3
namespace Go.Proofs.Ytggmffmajgnhkaa.Pure
open Go.RowKit Go.Proofs.Ytggmffmajgnhkaa.Pr Go.Proofs.YtggmffmajgnhkaaW.PrintWords Go.Proofs.YtggmffmajgnhkaaW.PrintLast Go.Proofs.YtggmffmajgnhkaaW.PrintMore
set_option linter.unusedVariables false
set_option linter.unusedSimpArgs false
set_option maxRecDepth 100000
theorem i64_bounds {a : Int} (h : (Lit.int .i64 a).wf = true) : -9223372036854775808 ≤ a ∧ a ≤ 9223372036854775807 := by
  have h2 : IntKind.i64.min ≤ a ∧ a ≤ IntKind.i64.max := by simpa [Lit.wf] using h
  have e1 : IntKind.i64.min = -9223372036854775808 := by decide +kernel
  have e2 : IntKind.i64.max = 9223372036854775807 := by decide +kernel
  omega
theorem lives0 : valiselaw01_lives.f 60 = some true := by decide +kernel
theorem lives {k : Nat} (hk : 60 ≤ k) : valiselaw01_lives.f k = some true := at_rounds valiselaw01_lives.mono hk lives0
theorem BitsTurns : valiselaw01_BitsTurns.Pure := by
  intro v n hv hn
  obtain ⟨y0, y1⟩ := i64_bounds hv
  refine ⟨60, ?_⟩
  unfold valiselaw01_BitsTurns.f
  rw [turn_eq (by omega) v n y1, refTurn_eq (by omega) v n y1, lives (Nat.le_refl _)]
  simp
end Go.Proofs.Ytggmffmajgnhkaa.Pure
