-- PRINTED BY print.sh 35421559b90ae4d0a3588c463048766b98c2df88dd9212a6774a882060cdf62d: not written by this session
import Derived.Test.YtcagkcecpofekaaProg
import Derived.Below
import Derived.Deep.Draws
import Derived.Deep.AppendLies
import Derived.Maps.AppendAt
import Derived.OwnWalk
import Derived.Laws.BytesArg
import Derived.Laws.MakeOwn
import Derived.Laws.OwnMore
import Derived.Deep.OwnRows
import Derived.Tactics
import Derived.Lib.ConvBytes
import Derived.Laws.Slices
import Derived.WalkKit
import Derived.KernelRfl
import Derived.RowKit3
import Derived.Deep.LoopGhost
import Derived.Deep.QuietTactic
import Derived.BigQuiet
import Derived.WideLaws
import Derived.Deep.DeepCutAuto
import Derived.Deep.CutBlock
import Derived.Deep.RegionHeld3
import Derived.Laws.Rows
import Derived.Lib.AppendStr
import Derived.ArgAppend
import Derived.Laws.IdiomCopy
import Derived.OrdersHeld
import Derived.Laws.BitsLemmas
import Derived.RowKit
import Derived.Test.YtcagkcecpofekaaWWords
import Derived.Test.YtcagkcecpofekaaWLast
import Derived.Test.YtcagkcecpofekaaWTab
import Derived.Test.YtcagkcecpofekaaWFour
import Derived.Test.YtcagkcecpofekaaWQPut
import Derived.Test.YtcagkcecpofekaaWApart
import Derived.Test.YtcagkcecpofekaaWArr
import Derived.Test.YtcagkcecpofekaaWZeros
import Derived.Test.YtcagkcecpofekaaWFoot
import Derived.Test.YtcagkcecpofekaaWKept
import Derived.Test.YtcagkcecpofekaaWShare
import Derived.Test.YtcagkcecpofekaaWN
import Derived.Test.YtcagkcecpofekaaWFootNe
import Derived.Test.YtcagkcecpofekaaWAt
import Derived.Test.YtcagkcecpofekaaWEqStruct
import Derived.Test.YtcagkcecpofekaaWRepsOne
import Derived.Test.YtcagkcecpofekaaWInv
import Derived.Test.YtcagkcecpofekaaWInvWords
import Derived.Test.YtcagkcecpofekaaWGuard
import Derived.Test.YtcagkcecpofekaaWNEv
import Derived.Test.YtcagkcecpofekaaWMore
namespace Go.Proofs.Ytcagkcecpofekaa.PFnExactConstants
open Go.RowKit Go.Proofs.YtcagkcecpofekaaW.PrintWords Go.Proofs.YtcagkcecpofekaaW.PrintLast Go.Proofs.YtcagkcecpofekaaW.PrintMore
attribute [local go_sem] max2_int min2_int max_two min_two max_three min_three max_four min_four   -- for this text's walks alone
set_option linter.unusedVariables false
set_option linter.unusedSimpArgs false



def errW : Option Int → Value
  | none => .nilIface
  | some c => .iface 0 (.int .i64 c)
theorem errW_none : errW none = .nilIface := rfl
theorem errW_some (c : Int) : errW (some c) = .iface 0 (.int .i64 c) := rfl

-- the values' own types

end Go.Proofs.Ytcagkcecpofekaa.PFnExactConstants
