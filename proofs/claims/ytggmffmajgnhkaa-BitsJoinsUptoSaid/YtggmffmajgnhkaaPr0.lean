-- Written by a program of this session (wip/tool/graft.py), which runs the kit's printer over texts by hand.
import Derived.Test.YtggmffmajgnhkaaProg
import Derived.Below
import Derived.Deep.Draws
import Derived.Deep.AppendLies
import Derived.Maps.AppendAt
import Derived.OwnWalk
import Derived.Laws.BytesArg
import Derived.Laws.MakeOwn
import Derived.Laws.OwnMore
import Derived.Deep.OwnRows
import Derived.Tactics
import Derived.Lib.ConvBytes
import Derived.Laws.Slices
import Derived.WalkKit
import Derived.KernelRfl
import Derived.RowKit3
import Derived.Deep.LoopGhost
import Derived.Deep.QuietTactic
import Derived.BigQuiet
import Derived.WideLaws
import Derived.Deep.DeepCutAuto
import Derived.Deep.CutBlock
import Derived.Deep.RegionHeld3
import Derived.Laws.Rows
import Derived.Lib.AppendStr
import Derived.ArgAppend
import Derived.Laws.IdiomCopy
import Derived.OrdersHeld
import Derived.Laws.BitsLemmas
import Derived.RowKit
import Derived.Lib.SliceRun
import Derived.Laws.BitsAllLaws
import Derived.Test.YtggmffmajgnhkaaWWords
import Derived.Test.YtggmffmajgnhkaaWLast
import Derived.Test.YtggmffmajgnhkaaWTab
import Derived.Test.YtggmffmajgnhkaaWFour
import Derived.Test.YtggmffmajgnhkaaWQPut
import Derived.Test.YtggmffmajgnhkaaWApart
import Derived.Test.YtggmffmajgnhkaaWArr
import Derived.Test.YtggmffmajgnhkaaWZeros
import Derived.Test.YtggmffmajgnhkaaWFoot
import Derived.Test.YtggmffmajgnhkaaWKept
import Derived.Test.YtggmffmajgnhkaaWShare
import Derived.Test.YtggmffmajgnhkaaWN
import Derived.Test.YtggmffmajgnhkaaWFootNe
import Derived.Test.YtggmffmajgnhkaaWAt
import Derived.Test.YtggmffmajgnhkaaWEqStruct
import Derived.Test.YtggmffmajgnhkaaWRepsOne
import Derived.Test.YtggmffmajgnhkaaWInv
import Derived.Test.YtggmffmajgnhkaaWInvWords
import Derived.Test.YtggmffmajgnhkaaWGuard
import Derived.Test.YtggmffmajgnhkaaWNEv
import Derived.Test.YtggmffmajgnhkaaWMore
namespace Go.Proofs.Ytggmffmajgnhkaa.Pr
open Go.RowKit Go.Proofs.YtggmffmajgnhkaaW.PrintWords Go.Proofs.YtggmffmajgnhkaaW.PrintLast Go.Proofs.YtggmffmajgnhkaaW.PrintMore
attribute [local go_sem] max2_int min2_int max_two min_two max_three min_three max_four min_four   -- for this text's walks alone
set_option linter.unusedVariables false
set_option linter.unusedSimpArgs false

theorem u8_w (n : Int) : IntKind.u8.wrap n = n % 256 := IntKind.wrap_u8 n



def errW : Option Int → Value
  | none => .nilIface
  | some c => .iface 0 (.int .i64 c)
theorem errW_none : errW none = .nilIface := rfl
theorem errW_some (c : Int) : errW (some c) = .iface 0 (.int .i64 c) := rfl

theorem info5 : (Try.prog.info? 5).map (fun i => (i.zero, i.size, i.bytes)) = some (some (.int .u8 0), 1, 1) := by kernel_rfl
-- the values' own types

end Go.Proofs.Ytggmffmajgnhkaa.Pr
