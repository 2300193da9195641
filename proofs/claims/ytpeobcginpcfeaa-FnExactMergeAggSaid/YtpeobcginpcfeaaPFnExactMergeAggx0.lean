-- Written by a program of this session (xprint.py, over the kit's print).
import Derived.Test.YtpeobcginpcfeaaProg
import Derived.Below
import Derived.Deep.Draws
import Derived.Deep.AppendLies
import Derived.Maps.AppendAt
import Derived.OwnWalk
import Derived.Laws.BytesArg
import Derived.Laws.MakeOwn
import Derived.Laws.OwnMore
import Derived.Deep.OwnRows
import Derived.Tactics
import Derived.Lib.ConvBytes
import Derived.Laws.Slices
import Derived.WalkKit
import Derived.KernelRfl
import Derived.RowKit3
import Derived.Deep.LoopGhost
import Derived.Deep.QuietTactic
import Derived.BigQuiet
import Derived.WideLaws
import Derived.Deep.DeepCutAuto
import Derived.Deep.CutBlock
import Derived.Deep.RegionHeld3
import Derived.Laws.Rows
import Derived.Lib.AppendStr
import Derived.ArgAppend
import Derived.Laws.IdiomCopy
import Derived.OrdersHeld
import Derived.Laws.BitsLemmas
import Derived.RowKit
import Derived.Test.YtpeobcginpcfeaaWWords
import Derived.Test.YtpeobcginpcfeaaWLast
import Derived.Test.YtpeobcginpcfeaaWTab
import Derived.Test.YtpeobcginpcfeaaWFour
import Derived.Test.YtpeobcginpcfeaaWQPut
import Derived.Test.YtpeobcginpcfeaaWApart
import Derived.Test.YtpeobcginpcfeaaWArr
import Derived.Test.YtpeobcginpcfeaaWZeros
import Derived.Test.YtpeobcginpcfeaaWFoot
import Derived.Test.YtpeobcginpcfeaaWKept
import Derived.Test.YtpeobcginpcfeaaWShare
import Derived.Test.YtpeobcginpcfeaaWN
import Derived.Test.YtpeobcginpcfeaaWFootNe
import Derived.Test.YtpeobcginpcfeaaWAt
import Derived.Test.YtpeobcginpcfeaaWEqStruct
import Derived.Test.YtpeobcginpcfeaaWRepsOne
import Derived.Test.YtpeobcginpcfeaaWInv
import Derived.Test.YtpeobcginpcfeaaWInvWords
import Derived.Test.YtpeobcginpcfeaaWGuard
import Derived.Test.YtpeobcginpcfeaaWNEv
import Derived.Test.YtpeobcginpcfeaaWMore
import Derived.Test.YtpeobcginpcfeaaXWords
namespace Go.Proofs.Ytpeobcginpcfeaa.PFnExactMergeAgg
open Go.RowKit Go.Proofs.YtpeobcginpcfeaaW.PrintWords Go.Proofs.YtpeobcginpcfeaaW.PrintLast Go.Proofs.YtpeobcginpcfeaaW.PrintMore Go.Proofs.Ytpeobcginpcfeaa.XWords
attribute [local go_sem] max2_int min2_int max_two min_two max_three min_three max_four min_four   -- for this text's walks alone
set_option linter.unusedVariables false
set_option linter.unusedSimpArgs false



def errW : Option Int → Value
  | none => .nilIface
  | some c => .iface 0 (.int .i64 c)
theorem errW_none : errW none = .nilIface := rfl
theorem errW_some (c : Int) : errW (some c) = .iface 0 (.int .i64 c) := rfl

-- the values' own types

end Go.Proofs.Ytpeobcginpcfeaa.PFnExactMergeAgg
