-- Printed by a patched copy of the print, a program of this session. Lean checks it.
import Derived.Test.YtncagigpflfkbaaDoorProg
import Derived.Test.YtncagigpflfkbaaDoorFn
import Derived.Below
import Derived.Deep.Draws
import Derived.Deep.AppendLies
import Derived.Maps.AppendAt
import Derived.OwnWalk
import Derived.Laws.BytesArg
import Derived.Laws.MakeOwn
import Derived.Laws.OwnMore
import Derived.Deep.OwnRows
import Derived.Tactics
import Derived.Lib.ConvBytes
import Derived.Laws.Slices
import Derived.WalkKit
import Derived.KernelRfl
import Derived.RowKit3
import Derived.Deep.LoopGhost
import Derived.Deep.QuietTactic
import Derived.BigQuiet
import Derived.WideLaws
import Derived.Deep.DeepCutAuto
import Derived.Deep.CutBlock
import Derived.Deep.RegionHeld3
import Derived.Laws.Rows
import Derived.Lib.AppendStr
import Derived.ArgAppend
import Derived.Laws.IdiomCopy
import Derived.OrdersHeld
import Derived.Laws.BitsLemmas
import Derived.RowKit
import Derived.Test.YtncagigpflfkbaaDoorTz
import Derived.Test.YtncagigpflfkbaaDoorWWords
import Derived.Test.YtncagigpflfkbaaDoorWLast
import Derived.Test.YtncagigpflfkbaaDoorWTab
import Derived.Test.YtncagigpflfkbaaDoorWFour
import Derived.Test.YtncagigpflfkbaaDoorWQPut
import Derived.Test.YtncagigpflfkbaaDoorWApart
import Derived.Test.YtncagigpflfkbaaDoorWArr
import Derived.Test.YtncagigpflfkbaaDoorWZeros
import Derived.Test.YtncagigpflfkbaaDoorWFoot
import Derived.Test.YtncagigpflfkbaaDoorWKept
import Derived.Test.YtncagigpflfkbaaDoorWShare
import Derived.Test.YtncagigpflfkbaaDoorWN
import Derived.Test.YtncagigpflfkbaaDoorWFootNe
import Derived.Test.YtncagigpflfkbaaDoorWAt
import Derived.Test.YtncagigpflfkbaaDoorWEqStruct
import Derived.Test.YtncagigpflfkbaaDoorWRepsOne
import Derived.Test.YtncagigpflfkbaaDoorWInv
import Derived.Test.YtncagigpflfkbaaDoorWInvWords
import Derived.Test.YtncagigpflfkbaaDoorWGuard
import Derived.Test.YtncagigpflfkbaaDoorWNEv
import Derived.Test.YtncagigpflfkbaaDoorWMore
namespace Go.Proofs.YtncagigpflfkbaaDoor.XFnTags
open Go.RowKit Go.Proofs.YtncagigpflfkbaaDoorW.PrintWords Go.Proofs.YtncagigpflfkbaaDoorW.PrintLast Go.Proofs.YtncagigpflfkbaaDoorW.PrintMore
attribute [local go_sem] max2_int min2_int max_two min_two max_three min_three max_four min_four   -- for this text's walks alone
set_option linter.unusedVariables false
set_option linter.unusedSimpArgs false



def errW : Option Int → Value
  | none => .nilIface
  | some c => .iface 0 (.int .i64 c)
theorem errW_none : errW none = .nilIface := rfl
theorem errW_some (c : Int) : errW (some c) = .iface 0 (.int .i64 c) := rfl

theorem info3 : (Tryd.prog.info? 3).map (fun i => (i.zero, i.size, i.bytes)) = some (some (.int .i64 0), 1, 8) := by kernel_rfl
-- the values' own types

end Go.Proofs.YtncagigpflfkbaaDoor.XFnTags
