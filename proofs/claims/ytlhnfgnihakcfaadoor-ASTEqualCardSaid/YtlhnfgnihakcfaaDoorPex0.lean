-- printed for this claim
import Derived.Test.YtlhnfgnihakcfaaDoorProg
import Derived.Below
import Derived.Deep.Draws
import Derived.Deep.AppendLies
import Derived.Maps.AppendAt
import Derived.OwnWalk
import Derived.Laws.BytesArg
import Derived.Laws.MakeOwn
import Derived.Laws.OwnMore
import Derived.Deep.OwnRows
import Derived.Tactics
import Derived.Lib.ConvBytes
import Derived.Laws.Slices
import Derived.WalkKit
import Derived.KernelRfl
import Derived.RowKit3
import Derived.Deep.LoopGhost
import Derived.Deep.QuietTactic
import Derived.BigQuiet
import Derived.WideLaws
import Derived.Deep.DeepCutAuto
import Derived.Deep.CutBlock
import Derived.Deep.RegionHeld3
import Derived.Laws.Rows
import Derived.Lib.AppendStr
import Derived.ArgAppend
import Derived.Laws.IdiomCopy
import Derived.OrdersHeld
import Derived.Laws.BitsLemmas
import Derived.RowKit
import Derived.Test.YtlhnfgnihakcfaaDoorWWords
import Derived.Test.YtlhnfgnihakcfaaDoorWLast
import Derived.Test.YtlhnfgnihakcfaaDoorWTab
import Derived.Test.YtlhnfgnihakcfaaDoorWFour
import Derived.Test.YtlhnfgnihakcfaaDoorWQPut
import Derived.Test.YtlhnfgnihakcfaaDoorWApart
import Derived.Test.YtlhnfgnihakcfaaDoorWArr
import Derived.Test.YtlhnfgnihakcfaaDoorWZeros
import Derived.Test.YtlhnfgnihakcfaaDoorWFoot
import Derived.Test.YtlhnfgnihakcfaaDoorWKept
import Derived.Test.YtlhnfgnihakcfaaDoorWShare
import Derived.Test.YtlhnfgnihakcfaaDoorWN
import Derived.Test.YtlhnfgnihakcfaaDoorWFootNe
import Derived.Test.YtlhnfgnihakcfaaDoorWAt
import Derived.Test.YtlhnfgnihakcfaaDoorWEqStruct
import Derived.Test.YtlhnfgnihakcfaaDoorWRepsOne
import Derived.Test.YtlhnfgnihakcfaaDoorWInv
import Derived.Test.YtlhnfgnihakcfaaDoorWInvWords
import Derived.Test.YtlhnfgnihakcfaaDoorWGuard
import Derived.Test.YtlhnfgnihakcfaaDoorWNEv
import Derived.Test.YtlhnfgnihakcfaaDoorWMore
import Derived.Test.YtlhnfgnihakcfaaDoorKn0
namespace Go.Proofs.YtlhnfgnihakcfaaDoor.Kn
end Go.Proofs.YtlhnfgnihakcfaaDoor.Kn
namespace Go.Proofs.YtlhnfgnihakcfaaDoor.Lx
end Go.Proofs.YtlhnfgnihakcfaaDoor.Lx
namespace Go.Proofs.YtlhnfgnihakcfaaDoor.Pe
open Go.RowKit Go.Proofs.YtlhnfgnihakcfaaDoorW.PrintWords Go.Proofs.YtlhnfgnihakcfaaDoorW.PrintLast Go.Proofs.YtlhnfgnihakcfaaDoorW.PrintMore
attribute [local go_sem] max2_int min2_int max_two min_two max_three min_three max_four min_four   -- for this text's walks alone
open Go.Proofs.YtlhnfgnihakcfaaDoor.Kn Go.Proofs.YtlhnfgnihakcfaaDoor.Lx
set_option linter.unusedVariables false
set_option linter.unusedSimpArgs false

end Go.Proofs.YtlhnfgnihakcfaaDoor.Pe
