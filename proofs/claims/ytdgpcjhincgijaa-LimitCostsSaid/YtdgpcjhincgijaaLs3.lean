-- A text by hand (wip/limit/sort).
import Derived.RangeFuncNested
import Derived.RangeFuncBound
import Derived.RangeFuncCalls
import Derived.RangeFuncLeaves
import Derived.RangeFuncBox
import Derived.Shelf.Abstract
import Derived.Shelf.RegionOpen
import Derived.OwnWalkIn
import Derived.TacticsInMore
import Derived.LoopNIn
import Derived.LoopIn
import Derived.Test.YtdgpcjhincgijaaPr0
import Derived.Test.YtdgpcjhincgijaaLs1
namespace Go.Proofs.Ytdgpcjhincgijaa.Pr
open Go.RowKit Go.Shelf Go.Proofs.YtdgpcjhincgijaaW.PrintWords Go.Proofs.YtdgpcjhincgijaaW.PrintLast Go.Proofs.YtdgpcjhincgijaaW.PrintMore
set_option linter.unusedVariables false
set_option linter.unusedSimpArgs false
/-- What symMerge does. -/
def SymOk (κ : G44 → Int) (Dm : G44 → Prop) (g3 go base len cap : Nat) (ok : Nat → Prop) (a m b : Nat) : Prop := ∀ (P L R S : List G44) (W0 : World), Kd.R kG 44 W0 base ok (.slice (some ⟨go, 0, none⟩) len cap) (P ++ L ++ R ++ S) → a = P.length → m = a + L.length → b = m + R.length → 1 ≤ L.length → 1 ≤ R.length → Srt κ L → Srt κ R → len ≤ 1048576 → (∀ x ∈ L, Dm x) → (∀ x ∈ R, Dm x) → CmpOk κ Dm g3 go W0 →
  Calls Try.prog 43 #[.slice (some ⟨go, 0, none⟩) len cap, .int .i64 (a : Int), .int .i64 (m : Int), .int .i64 (b : Int), .func (.func 34) #[] #[]] W0 fun e W' => e = .returned (.tuple #[]) ∧ (∃ Z, Srt κ Z ∧ Stb κ (L ++ R) Z ∧ Kd.R kG 44 W' base ok (.slice (some ⟨go, 0, none⟩) len cap) (P ++ Z ++ S)) ∧ W0.grownBy W' (some go)
theorem SymOk.call {κ : G44 → Int} {Dm : G44 → Prop} {g3 go base len cap : Nat} {ok : Nat → Prop} {a m b : Nat} (h : SymOk κ Dm g3 go base len cap ok a m b) (P L R S : List G44) (W0 : World) (hR : Kd.R kG 44 W0 base ok (.slice (some ⟨go, 0, none⟩) len cap) (P ++ L ++ R ++ S)) (ha : a = P.length) (hm : m = a + L.length) (hb : b = m + R.length) (hl1 : 1 ≤ L.length) (hr1 : 1 ≤ R.length) (hsL : Srt κ L) (hsR : Srt κ R) (hl : len ≤ 1048576) (hDL : ∀ x ∈ L, Dm x) (hDR : ∀ x ∈ R, Dm x) (hC : CmpOk κ Dm g3 go W0) :
  Calls Try.prog 43 #[.slice (some ⟨go, 0, none⟩) len cap, .int .i64 (a : Int), .int .i64 (m : Int), .int .i64 (b : Int), .func (.func 34) #[] #[]] W0 fun e W' => e = .returned (.tuple #[]) ∧ (∃ Z, Srt κ Z ∧ Stb κ (L ++ R) Z ∧ Kd.R kG 44 W' base ok (.slice (some ⟨go, 0, none⟩) len cap) (P ++ Z ++ S)) ∧ W0.grownBy W' (some go) := h P L R S W0 hR ha hm hb hl1 hr1 hsL hsR hl hDL hDR hC
end Go.Proofs.Ytdgpcjhincgijaa.Pr
