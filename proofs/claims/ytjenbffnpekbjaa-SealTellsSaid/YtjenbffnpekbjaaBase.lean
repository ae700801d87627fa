/- The facts on types that the contracts use. -/
import Derived.Test.YtjenbffnpekbjaaProg
import Derived.Below
import Derived.Deep.Draws
import Derived.Deep.AppendLies
import Derived.Maps.AppendAt
import Derived.OwnWalk
import Derived.Laws.BytesArg
import Derived.Laws.MakeOwn
import Derived.Laws.OwnMore
import Derived.Deep.OwnRows
import Derived.Tactics
import Derived.Lib.ConvBytes
import Derived.Laws.Slices
import Derived.WalkKit
import Derived.KernelRfl
import Derived.RowKit3
import Derived.Deep.LoopGhost
import Derived.Deep.QuietTactic
import Derived.BigQuiet
import Derived.WideLaws
import Derived.Deep.DeepCutAuto
import Derived.Deep.CutBlock
import Derived.Deep.RegionHeld3
import Derived.Laws.Rows
import Derived.Lib.AppendStr
import Derived.ArgAppend
import Derived.Laws.IdiomCopy
import Derived.OrdersHeld
import Derived.Laws.BitsLemmas
import Derived.RowKit
import Derived.Test.YtjenbffnpekbjaaWWords
import Derived.Test.YtjenbffnpekbjaaWLast
import Derived.Test.YtjenbffnpekbjaaWTab
import Derived.Test.YtjenbffnpekbjaaWFour
import Derived.Test.YtjenbffnpekbjaaWQPut
import Derived.Test.YtjenbffnpekbjaaWApart
import Derived.Test.YtjenbffnpekbjaaWArr
import Derived.Test.YtjenbffnpekbjaaWZeros
import Derived.Test.YtjenbffnpekbjaaWFoot
import Derived.Test.YtjenbffnpekbjaaWKept
import Derived.Test.YtjenbffnpekbjaaWShare
import Derived.Test.YtjenbffnpekbjaaWN
import Derived.Test.YtjenbffnpekbjaaWFootNe
import Derived.Test.YtjenbffnpekbjaaWAt
import Derived.Test.YtjenbffnpekbjaaWEqStruct
import Derived.Test.YtjenbffnpekbjaaWRepsOne
import Derived.Test.YtjenbffnpekbjaaWInv
import Derived.Test.YtjenbffnpekbjaaWInvWords
import Derived.Test.YtjenbffnpekbjaaWGuard
import Derived.Test.YtjenbffnpekbjaaWNEv
import Derived.Test.YtjenbffnpekbjaaWMore
namespace Go.Proofs.Ytjenbffnpekbjaa.F
open Go.RowKit Go.Proofs.YtjenbffnpekbjaaW.PrintWords Go.Proofs.YtjenbffnpekbjaaW.PrintLast Go.Proofs.YtjenbffnpekbjaaW.PrintMore
attribute [local go_sem] max2_int min2_int max_two min_two max_three min_three max_four min_four
set_option linter.unusedVariables false
set_option linter.unusedSimpArgs false

theorem info5 : (Try.prog.info? 5).map (fun i => (i.zero, i.size, i.bytes)) = some (some (.int .u8 0), 1, 1) := by kernel_rfl


end Go.Proofs.Ytjenbffnpekbjaa.F
