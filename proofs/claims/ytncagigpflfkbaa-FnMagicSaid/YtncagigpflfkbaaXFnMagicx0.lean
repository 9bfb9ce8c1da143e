-- Printed by a patched copy of the print, a program of this session. Lean checks it.
import Derived.Test.YtncagigpflfkbaaProg
import Derived.Test.YtncagigpflfkbaaFn
import Derived.Below
import Derived.Deep.Draws
import Derived.Deep.AppendLies
import Derived.Maps.AppendAt
import Derived.OwnWalk
import Derived.Laws.BytesArg
import Derived.Laws.MakeOwn
import Derived.Laws.OwnMore
import Derived.Deep.OwnRows
import Derived.Tactics
import Derived.Lib.ConvBytes
import Derived.Laws.Slices
import Derived.WalkKit
import Derived.KernelRfl
import Derived.RowKit3
import Derived.Deep.LoopGhost
import Derived.Deep.QuietTactic
import Derived.BigQuiet
import Derived.WideLaws
import Derived.Deep.DeepCutAuto
import Derived.Deep.CutBlock
import Derived.Deep.RegionHeld3
import Derived.Laws.Rows
import Derived.Lib.AppendStr
import Derived.ArgAppend
import Derived.Laws.IdiomCopy
import Derived.OrdersHeld
import Derived.Laws.BitsLemmas
import Derived.RowKit
import Derived.Test.YtncagigpflfkbaaWWords
import Derived.Test.YtncagigpflfkbaaWLast
import Derived.Test.YtncagigpflfkbaaWTab
import Derived.Test.YtncagigpflfkbaaWFour
import Derived.Test.YtncagigpflfkbaaWQPut
import Derived.Test.YtncagigpflfkbaaWApart
import Derived.Test.YtncagigpflfkbaaWArr
import Derived.Test.YtncagigpflfkbaaWZeros
import Derived.Test.YtncagigpflfkbaaWFoot
import Derived.Test.YtncagigpflfkbaaWKept
import Derived.Test.YtncagigpflfkbaaWShare
import Derived.Test.YtncagigpflfkbaaWN
import Derived.Test.YtncagigpflfkbaaWFootNe
import Derived.Test.YtncagigpflfkbaaWAt
import Derived.Test.YtncagigpflfkbaaWEqStruct
import Derived.Test.YtncagigpflfkbaaWRepsOne
import Derived.Test.YtncagigpflfkbaaWInv
import Derived.Test.YtncagigpflfkbaaWInvWords
import Derived.Test.YtncagigpflfkbaaWGuard
import Derived.Test.YtncagigpflfkbaaWNEv
import Derived.Test.YtncagigpflfkbaaWMore
namespace Go.Proofs.Ytncagigpflfkbaa.XFnMagic
open Go.RowKit Go.Proofs.YtncagigpflfkbaaW.PrintWords Go.Proofs.YtncagigpflfkbaaW.PrintLast Go.Proofs.YtncagigpflfkbaaW.PrintMore
attribute [local go_sem] max2_int min2_int max_two min_two max_three min_three max_four min_four   -- for this text's walks alone
set_option linter.unusedVariables false
set_option linter.unusedSimpArgs false



def errW : Option Int → Value
  | none => .nilIface
  | some c => .iface 0 (.int .i64 c)
theorem errW_none : errW none = .nilIface := rfl
theorem errW_some (c : Int) : errW (some c) = .iface 0 (.int .i64 c) := rfl

theorem info3 : (Try.prog.info? 3).map (fun i => (i.zero, i.size, i.bytes)) = some (some (.int .i64 0), 1, 8) := by kernel_rfl
-- the values' own types

end Go.Proofs.Ytncagigpflfkbaa.XFnMagic
