-- Written by a program of this session (wip/tool/graft.py), which runs the kit's printer over texts by hand.
import Derived.Test.YthcndpdfcippiaaProg
import Derived.Below
import Derived.Deep.Draws
import Derived.Deep.AppendLies
import Derived.Maps.AppendAt
import Derived.OwnWalk
import Derived.Laws.BytesArg
import Derived.Laws.MakeOwn
import Derived.Laws.OwnMore
import Derived.Deep.OwnRows
import Derived.Tactics
import Derived.Lib.ConvBytes
import Derived.Laws.Slices
import Derived.WalkKit
import Derived.KernelRfl
import Derived.RowKit3
import Derived.Deep.LoopGhost
import Derived.Deep.QuietTactic
import Derived.BigQuiet
import Derived.WideLaws
import Derived.Deep.DeepCutAuto
import Derived.Deep.CutBlock
import Derived.Deep.RegionHeld3
import Derived.Laws.Rows
import Derived.Lib.AppendStr
import Derived.ArgAppend
import Derived.Laws.IdiomCopy
import Derived.OrdersHeld
import Derived.Laws.BitsLemmas
import Derived.RowKit
import Derived.Lib.SliceRun
import Derived.Laws.BitsAllLaws
import Derived.Test.YthcndpdfcippiaaWWords
import Derived.Test.YthcndpdfcippiaaWLast
import Derived.Test.YthcndpdfcippiaaWTab
import Derived.Test.YthcndpdfcippiaaWFour
import Derived.Test.YthcndpdfcippiaaWQPut
import Derived.Test.YthcndpdfcippiaaWApart
import Derived.Test.YthcndpdfcippiaaWArr
import Derived.Test.YthcndpdfcippiaaWZeros
import Derived.Test.YthcndpdfcippiaaWFoot
import Derived.Test.YthcndpdfcippiaaWKept
import Derived.Test.YthcndpdfcippiaaWShare
import Derived.Test.YthcndpdfcippiaaWN
import Derived.Test.YthcndpdfcippiaaWFootNe
import Derived.Test.YthcndpdfcippiaaWAt
import Derived.Test.YthcndpdfcippiaaWEqStruct
import Derived.Test.YthcndpdfcippiaaWRepsOne
import Derived.Test.YthcndpdfcippiaaWInv
import Derived.Test.YthcndpdfcippiaaWInvWords
import Derived.Test.YthcndpdfcippiaaWGuard
import Derived.Test.YthcndpdfcippiaaWNEv
import Derived.Test.YthcndpdfcippiaaWMore
namespace Go.Proofs.Ythcndpdfcippiaa.Hu
open Go.RowKit Go.Proofs.YthcndpdfcippiaaW.PrintWords Go.Proofs.YthcndpdfcippiaaW.PrintLast Go.Proofs.YthcndpdfcippiaaW.PrintMore
attribute [local go_sem] max2_int min2_int max_two min_two max_three min_three max_four min_four   -- for this text's walks alone
set_option linter.unusedVariables false
set_option linter.unusedSimpArgs false

theorem u8_w (n : Int) : IntKind.u8.wrap n = n % 256 := IntKind.wrap_u8 n



def errW : Option Int → Value
  | none => .nilIface
  | some c => .iface 0 (.int .i64 c)
theorem errW_none : errW none = .nilIface := rfl
theorem errW_some (c : Int) : errW (some c) = .iface 0 (.int .i64 c) := rfl

theorem info3 : (Try.prog.info? 3).map (fun i => (i.zero, i.size, i.bytes)) = some (some (.int .i64 0), 1, 8) := by kernel_rfl
theorem info5 : (Try.prog.info? 5).map (fun i => (i.zero, i.size, i.bytes)) = some (some (.int .u8 0), 1, 1) := by kernel_rfl
-- the values' own types

end Go.Proofs.Ythcndpdfcippiaa.Hu
