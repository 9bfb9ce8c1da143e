-- Printed by a patched copy of the print, a program of this session. Lean checks it.
import Derived.Test.YtjogfidpknebaaaProg
import Derived.Below
import Derived.Deep.Draws
import Derived.Deep.AppendLies
import Derived.Maps.AppendAt
import Derived.OwnWalk
import Derived.Laws.BytesArg
import Derived.Laws.MakeOwn
import Derived.Laws.OwnMore
import Derived.Deep.OwnRows
import Derived.Tactics
import Derived.Lib.ConvBytes
import Derived.Laws.Slices
import Derived.WalkKit
import Derived.KernelRfl
import Derived.RowKit3
import Derived.Deep.LoopGhost
import Derived.Deep.QuietTactic
import Derived.BigQuiet
import Derived.WideLaws
import Derived.Deep.DeepCutAuto
import Derived.Deep.CutBlock
import Derived.Deep.RegionHeld3
import Derived.Laws.Rows
import Derived.Lib.AppendStr
import Derived.ArgAppend
import Derived.Laws.IdiomCopy
import Derived.OrdersHeld
import Derived.Laws.BitsLemmas
import Derived.RowKit
import Derived.Test.YtjogfidpknebaaaWWords
import Derived.Test.YtjogfidpknebaaaWLast
import Derived.Test.YtjogfidpknebaaaWTab
import Derived.Test.YtjogfidpknebaaaWFour
import Derived.Test.YtjogfidpknebaaaWQPut
import Derived.Test.YtjogfidpknebaaaWApart
import Derived.Test.YtjogfidpknebaaaWArr
import Derived.Test.YtjogfidpknebaaaWZeros
import Derived.Test.YtjogfidpknebaaaWFoot
import Derived.Test.YtjogfidpknebaaaWKept
import Derived.Test.YtjogfidpknebaaaWShare
import Derived.Test.YtjogfidpknebaaaWN
import Derived.Test.YtjogfidpknebaaaWFootNe
import Derived.Test.YtjogfidpknebaaaWAt
import Derived.Test.YtjogfidpknebaaaWEqStruct
import Derived.Test.YtjogfidpknebaaaWRepsOne
import Derived.Test.YtjogfidpknebaaaWInv
import Derived.Test.YtjogfidpknebaaaWInvWords
import Derived.Test.YtjogfidpknebaaaWGuard
import Derived.Test.YtjogfidpknebaaaWNEv
import Derived.Test.YtjogfidpknebaaaWMore
namespace Go.Proofs.Ytjogfidpknebaaa.XFnExactJoinFacts
open Go.RowKit Go.Proofs.YtjogfidpknebaaaW.PrintWords Go.Proofs.YtjogfidpknebaaaW.PrintLast Go.Proofs.YtjogfidpknebaaaW.PrintMore
attribute [local go_sem] max2_int min2_int max_two min_two max_three min_three max_four min_four   -- for this text's walks alone
set_option linter.unusedVariables false
set_option linter.unusedSimpArgs false



def errW : Option Int → Value
  | none => .nilIface
  | some c => .iface 0 (.int .i64 c)
theorem errW_none : errW none = .nilIface := rfl
theorem errW_some (c : Int) : errW (some c) = .iface 0 (.int .i64 c) := rfl

-- the values' own types

end Go.Proofs.Ytjogfidpknebaaa.XFnExactJoinFacts
