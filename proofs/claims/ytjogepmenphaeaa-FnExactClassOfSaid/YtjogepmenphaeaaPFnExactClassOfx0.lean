-- Written by a program of this session.
import Derived.Test.YtjogepmenphaeaaProg
import Derived.Below
import Derived.Deep.Draws
import Derived.Deep.AppendLies
import Derived.Maps.AppendAt
import Derived.OwnWalk
import Derived.Laws.BytesArg
import Derived.Laws.MakeOwn
import Derived.Laws.OwnMore
import Derived.Deep.OwnRows
import Derived.Tactics
import Derived.Lib.ConvBytes
import Derived.Laws.Slices
import Derived.WalkKit
import Derived.KernelRfl
import Derived.RowKit3
import Derived.Deep.LoopGhost
import Derived.Deep.QuietTactic
import Derived.BigQuiet
import Derived.WideLaws
import Derived.Deep.DeepCutAuto
import Derived.Deep.CutBlock
import Derived.Deep.RegionHeld3
import Derived.Laws.Rows
import Derived.Lib.AppendStr
import Derived.ArgAppend
import Derived.Laws.IdiomCopy
import Derived.OrdersHeld
import Derived.Laws.BitsLemmas
import Derived.RowKit
import Derived.Test.YtjogepmenphaeaaWWords
import Derived.Test.YtjogepmenphaeaaWLast
import Derived.Test.YtjogepmenphaeaaWTab
import Derived.Test.YtjogepmenphaeaaWFour
import Derived.Test.YtjogepmenphaeaaWQPut
import Derived.Test.YtjogepmenphaeaaWApart
import Derived.Test.YtjogepmenphaeaaWArr
import Derived.Test.YtjogepmenphaeaaWZeros
import Derived.Test.YtjogepmenphaeaaWFoot
import Derived.Test.YtjogepmenphaeaaWKept
import Derived.Test.YtjogepmenphaeaaWShare
import Derived.Test.YtjogepmenphaeaaWN
import Derived.Test.YtjogepmenphaeaaWFootNe
import Derived.Test.YtjogepmenphaeaaWAt
import Derived.Test.YtjogepmenphaeaaWEqStruct
import Derived.Test.YtjogepmenphaeaaWRepsOne
import Derived.Test.YtjogepmenphaeaaWInv
import Derived.Test.YtjogepmenphaeaaWInvWords
import Derived.Test.YtjogepmenphaeaaWGuard
import Derived.Test.YtjogepmenphaeaaWNEv
import Derived.Test.YtjogepmenphaeaaWMore
namespace Go.Proofs.Ytjogepmenphaeaa.PFnExactClassOf
open Go.RowKit Go.Proofs.YtjogepmenphaeaaW.PrintWords Go.Proofs.YtjogepmenphaeaaW.PrintLast Go.Proofs.YtjogepmenphaeaaW.PrintMore
attribute [local go_sem] max2_int min2_int max_two min_two max_three min_three max_four min_four   -- for this text's walks alone
set_option linter.unusedVariables false
set_option linter.unusedSimpArgs false



def errW : Option Int → Value
  | none => .nilIface
  | some c => .iface 0 (.int .i64 c)
theorem errW_none : errW none = .nilIface := rfl
theorem errW_some (c : Int) : errW (some c) = .iface 0 (.int .i64 c) := rfl

-- the values' own types

end Go.Proofs.Ytjogepmenphaeaa.PFnExactClassOf
