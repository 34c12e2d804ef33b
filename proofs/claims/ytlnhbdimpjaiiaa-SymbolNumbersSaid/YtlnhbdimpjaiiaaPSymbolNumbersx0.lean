-- PRINTED BY print.sh 35421559b90ae4d0a3588c463048766b98c2df88dd9212a6774a882060cdf62d: not written by this session
import Derived.Test.YtlnhbdimpjaiiaaProg
import Derived.Below
import Derived.Deep.Draws
import Derived.Deep.AppendLies
import Derived.Maps.AppendAt
import Derived.OwnWalk
import Derived.Laws.BytesArg
import Derived.Laws.MakeOwn
import Derived.Laws.OwnMore
import Derived.Deep.OwnRows
import Derived.Tactics
import Derived.Lib.ConvBytes
import Derived.Laws.Slices
import Derived.WalkKit
import Derived.KernelRfl
import Derived.RowKit3
import Derived.Deep.LoopGhost
import Derived.Deep.QuietTactic
import Derived.BigQuiet
import Derived.WideLaws
import Derived.Deep.DeepCutAuto
import Derived.Deep.CutBlock
import Derived.Deep.RegionHeld3
import Derived.Laws.Rows
import Derived.Lib.AppendStr
import Derived.ArgAppend
import Derived.Laws.IdiomCopy
import Derived.OrdersHeld
import Derived.Laws.BitsLemmas
import Derived.RowKit
import Derived.Test.YtlnhbdimpjaiiaaWWords
import Derived.Test.YtlnhbdimpjaiiaaWLast
import Derived.Test.YtlnhbdimpjaiiaaWTab
import Derived.Test.YtlnhbdimpjaiiaaWFour
import Derived.Test.YtlnhbdimpjaiiaaWQPut
import Derived.Test.YtlnhbdimpjaiiaaWApart
import Derived.Test.YtlnhbdimpjaiiaaWArr
import Derived.Test.YtlnhbdimpjaiiaaWZeros
import Derived.Test.YtlnhbdimpjaiiaaWFoot
import Derived.Test.YtlnhbdimpjaiiaaWKept
import Derived.Test.YtlnhbdimpjaiiaaWShare
import Derived.Test.YtlnhbdimpjaiiaaWN
import Derived.Test.YtlnhbdimpjaiiaaWFootNe
import Derived.Test.YtlnhbdimpjaiiaaWAt
import Derived.Test.YtlnhbdimpjaiiaaWEqStruct
import Derived.Test.YtlnhbdimpjaiiaaWRepsOne
import Derived.Test.YtlnhbdimpjaiiaaWInv
import Derived.Test.YtlnhbdimpjaiiaaWInvWords
import Derived.Test.YtlnhbdimpjaiiaaWGuard
import Derived.Test.YtlnhbdimpjaiiaaWNEv
import Derived.Test.YtlnhbdimpjaiiaaWMore
namespace Go.Proofs.Ytlnhbdimpjaiiaa.PSymbolNumbers
open Go.RowKit Go.Proofs.YtlnhbdimpjaiiaaW.PrintWords Go.Proofs.YtlnhbdimpjaiiaaW.PrintLast Go.Proofs.YtlnhbdimpjaiiaaW.PrintMore
attribute [local go_sem] max2_int min2_int max_two min_two max_three min_three max_four min_four   -- for this text's walks alone
set_option linter.unusedVariables false
set_option linter.unusedSimpArgs false



def errW : Option Int → Value
  | none => .nilIface
  | some c => .iface 0 (.int .i64 c)
theorem errW_none : errW none = .nilIface := rfl
theorem errW_some (c : Int) : errW (some c) = .iface 0 (.int .i64 c) := rfl

-- the values' own types

end Go.Proofs.Ytlnhbdimpjaiiaa.PSymbolNumbers
