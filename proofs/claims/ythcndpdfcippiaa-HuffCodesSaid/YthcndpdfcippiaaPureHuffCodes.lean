/- Any numbers are lengths of a whole code or not, and any lengths have the codes that the document says, or none: both compute the codes by how many there are of each length. No condition. -/
import Derived.Test.YthcndpdfcippiaaPr0
import Derived.Test.YthcndpdfcippiaaPr17
import Derived.Test.YthcndpdfcippiaaWkHuffCodes
namespace Go.Proofs.Ythcndpdfcippiaa.Pure
open Go.RowKit Go.Proofs.Ythcndpdfcippiaa.Pr Go.Proofs.YthcndpdfcippiaaW.PrintWords Go.Proofs.YthcndpdfcippiaaW.PrintLast Go.Proofs.YthcndpdfcippiaaW.PrintMore
set_option linter.unusedVariables false
set_option linter.unusedSimpArgs false
set_option maxRecDepth 100000
theorem HuffCodes : valiselaw04_HuffCodes.Pure := fun l0 _ y0 _ => HuffCodes.pure l0 y0
end Go.Proofs.Ythcndpdfcippiaa.Pure
