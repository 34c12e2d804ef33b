/- No code begins with another one; of one length codes rise with their symbols; no longer code is ahead of a shorter one. No condition. -/
import Derived.Test.YthcndpdfcippiaaPr0
import Derived.Test.YthcndpdfcippiaaPr27
import Derived.Test.YthcndpdfcippiaaWkHuffApart
namespace Go.Proofs.Ythcndpdfcippiaa.Pure
open Go.RowKit Go.Proofs.Ythcndpdfcippiaa.Pr Go.Proofs.YthcndpdfcippiaaW.PrintWords Go.Proofs.YthcndpdfcippiaaW.PrintLast Go.Proofs.YthcndpdfcippiaaW.PrintMore
set_option linter.unusedVariables false
set_option linter.unusedSimpArgs false
set_option maxRecDepth 100000
theorem HuffApart : valiselaw04_HuffApart.Pure := fun l0 a1 a2 _ _ _ _ _ => ⟨1, HuffApart.pure l0 a1 a2⟩
end Go.Proofs.Ythcndpdfcippiaa.Pure
