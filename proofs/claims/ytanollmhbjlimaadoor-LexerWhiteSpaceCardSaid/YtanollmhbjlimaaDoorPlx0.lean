-- printed for this claim
import Derived.Test.YtanollmhbjlimaaDoorProg
import Derived.Below
import Derived.Deep.Draws
import Derived.Deep.AppendLies
import Derived.Maps.AppendAt
import Derived.OwnWalk
import Derived.Laws.BytesArg
import Derived.Laws.MakeOwn
import Derived.Laws.OwnMore
import Derived.Deep.OwnRows
import Derived.Tactics
import Derived.Lib.ConvBytes
import Derived.Laws.Slices
import Derived.WalkKit
import Derived.KernelRfl
import Derived.RowKit3
import Derived.Deep.LoopGhost
import Derived.Deep.QuietTactic
import Derived.BigQuiet
import Derived.WideLaws
import Derived.Deep.DeepCutAuto
import Derived.Deep.CutBlock
import Derived.Deep.RegionHeld3
import Derived.Laws.Rows
import Derived.Lib.AppendStr
import Derived.ArgAppend
import Derived.Laws.IdiomCopy
import Derived.OrdersHeld
import Derived.Laws.BitsLemmas
import Derived.RowKit
import Derived.Test.YtanollmhbjlimaaDoorWWords
import Derived.Test.YtanollmhbjlimaaDoorWLast
import Derived.Test.YtanollmhbjlimaaDoorWTab
import Derived.Test.YtanollmhbjlimaaDoorWFour
import Derived.Test.YtanollmhbjlimaaDoorWQPut
import Derived.Test.YtanollmhbjlimaaDoorWApart
import Derived.Test.YtanollmhbjlimaaDoorWArr
import Derived.Test.YtanollmhbjlimaaDoorWZeros
import Derived.Test.YtanollmhbjlimaaDoorWFoot
import Derived.Test.YtanollmhbjlimaaDoorWKept
import Derived.Test.YtanollmhbjlimaaDoorWShare
import Derived.Test.YtanollmhbjlimaaDoorWN
import Derived.Test.YtanollmhbjlimaaDoorWFootNe
import Derived.Test.YtanollmhbjlimaaDoorWAt
import Derived.Test.YtanollmhbjlimaaDoorWEqStruct
import Derived.Test.YtanollmhbjlimaaDoorWRepsOne
import Derived.Test.YtanollmhbjlimaaDoorWInv
import Derived.Test.YtanollmhbjlimaaDoorWInvWords
import Derived.Test.YtanollmhbjlimaaDoorWGuard
import Derived.Test.YtanollmhbjlimaaDoorWNEv
import Derived.Test.YtanollmhbjlimaaDoorWMore
import Derived.Test.YtanollmhbjlimaaDoorKn0
namespace Go.Proofs.YtanollmhbjlimaaDoor.Kn
end Go.Proofs.YtanollmhbjlimaaDoor.Kn
namespace Go.Proofs.YtanollmhbjlimaaDoor.Lx
end Go.Proofs.YtanollmhbjlimaaDoor.Lx
namespace Go.Proofs.YtanollmhbjlimaaDoor.Rf
end Go.Proofs.YtanollmhbjlimaaDoor.Rf
namespace Go.Proofs.YtanollmhbjlimaaDoor.Pl
open Go.RowKit Go.Proofs.YtanollmhbjlimaaDoorW.PrintWords Go.Proofs.YtanollmhbjlimaaDoorW.PrintLast Go.Proofs.YtanollmhbjlimaaDoorW.PrintMore
attribute [local go_sem] max2_int min2_int max_two min_two max_three min_three max_four min_four   -- for this text's walks alone
open Go.Proofs.YtanollmhbjlimaaDoor.Kn Go.Proofs.YtanollmhbjlimaaDoor.Lx Go.Proofs.YtanollmhbjlimaaDoor.Rf
set_option linter.unusedVariables false
set_option linter.unusedSimpArgs false

end Go.Proofs.YtanollmhbjlimaaDoor.Pl
