-- Printed by a patched copy of the print, a program of this session. Lean checks it.
import Derived.Test.YtjogfidpknebaaaDoorProg
import Derived.Test.YtjogfidpknebaaaDoorFn
import Derived.Below
import Derived.Deep.Draws
import Derived.Deep.AppendLies
import Derived.Maps.AppendAt
import Derived.OwnWalk
import Derived.Laws.BytesArg
import Derived.Laws.MakeOwn
import Derived.Laws.OwnMore
import Derived.Deep.OwnRows
import Derived.Tactics
import Derived.Lib.ConvBytes
import Derived.Laws.Slices
import Derived.WalkKit
import Derived.KernelRfl
import Derived.RowKit3
import Derived.Deep.LoopGhost
import Derived.Deep.QuietTactic
import Derived.BigQuiet
import Derived.WideLaws
import Derived.Deep.DeepCutAuto
import Derived.Deep.CutBlock
import Derived.Deep.RegionHeld3
import Derived.Laws.Rows
import Derived.Lib.AppendStr
import Derived.ArgAppend
import Derived.Laws.IdiomCopy
import Derived.OrdersHeld
import Derived.Laws.BitsLemmas
import Derived.RowKit
import Derived.Test.YtjogfidpknebaaaDoorTz
import Derived.Test.YtjogfidpknebaaaDoorWWords
import Derived.Test.YtjogfidpknebaaaDoorWLast
import Derived.Test.YtjogfidpknebaaaDoorWTab
import Derived.Test.YtjogfidpknebaaaDoorWFour
import Derived.Test.YtjogfidpknebaaaDoorWQPut
import Derived.Test.YtjogfidpknebaaaDoorWApart
import Derived.Test.YtjogfidpknebaaaDoorWArr
import Derived.Test.YtjogfidpknebaaaDoorWZeros
import Derived.Test.YtjogfidpknebaaaDoorWFoot
import Derived.Test.YtjogfidpknebaaaDoorWKept
import Derived.Test.YtjogfidpknebaaaDoorWShare
import Derived.Test.YtjogfidpknebaaaDoorWN
import Derived.Test.YtjogfidpknebaaaDoorWFootNe
import Derived.Test.YtjogfidpknebaaaDoorWAt
import Derived.Test.YtjogfidpknebaaaDoorWEqStruct
import Derived.Test.YtjogfidpknebaaaDoorWRepsOne
import Derived.Test.YtjogfidpknebaaaDoorWInv
import Derived.Test.YtjogfidpknebaaaDoorWInvWords
import Derived.Test.YtjogfidpknebaaaDoorWGuard
import Derived.Test.YtjogfidpknebaaaDoorWNEv
import Derived.Test.YtjogfidpknebaaaDoorWMore
namespace Go.Proofs.YtjogfidpknebaaaDoor.XFnExactLowestOne
open Go.RowKit Go.Proofs.YtjogfidpknebaaaDoorW.PrintWords Go.Proofs.YtjogfidpknebaaaDoorW.PrintLast Go.Proofs.YtjogfidpknebaaaDoorW.PrintMore
attribute [local go_sem] max2_int min2_int max_two min_two max_three min_three max_four min_four   -- for this text's walks alone
set_option linter.unusedVariables false
set_option linter.unusedSimpArgs false



def errW : Option Int → Value
  | none => .nilIface
  | some c => .iface 0 (.int .i64 c)
theorem errW_none : errW none = .nilIface := rfl
theorem errW_some (c : Int) : errW (some c) = .iface 0 (.int .i64 c) := rfl

-- the values' own types

end Go.Proofs.YtjogfidpknebaaaDoor.XFnExactLowestOne
