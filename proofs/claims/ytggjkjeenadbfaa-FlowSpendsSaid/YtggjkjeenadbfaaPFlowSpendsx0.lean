-- PRINTED BY print.sh 35421559b90ae4d0a3588c463048766b98c2df88dd9212a6774a882060cdf62d: not written by this session
import Derived.Test.YtggjkjeenadbfaaProg
import Derived.Below
import Derived.Deep.Draws
import Derived.Deep.AppendLies
import Derived.Maps.AppendAt
import Derived.OwnWalk
import Derived.Laws.BytesArg
import Derived.Laws.MakeOwn
import Derived.Laws.OwnMore
import Derived.Deep.OwnRows
import Derived.Tactics
import Derived.Lib.ConvBytes
import Derived.Laws.Slices
import Derived.WalkKit
import Derived.KernelRfl
import Derived.RowKit3
import Derived.Deep.LoopGhost
import Derived.Deep.QuietTactic
import Derived.BigQuiet
import Derived.WideLaws
import Derived.Deep.DeepCutAuto
import Derived.Deep.CutBlock
import Derived.Deep.RegionHeld3
import Derived.Laws.Rows
import Derived.Lib.AppendStr
import Derived.ArgAppend
import Derived.Laws.IdiomCopy
import Derived.OrdersHeld
import Derived.Laws.BitsLemmas
import Derived.RowKit
import Derived.Test.YtggjkjeenadbfaaWWords
import Derived.Test.YtggjkjeenadbfaaWLast
import Derived.Test.YtggjkjeenadbfaaWTab
import Derived.Test.YtggjkjeenadbfaaWFour
import Derived.Test.YtggjkjeenadbfaaWQPut
import Derived.Test.YtggjkjeenadbfaaWApart
import Derived.Test.YtggjkjeenadbfaaWArr
import Derived.Test.YtggjkjeenadbfaaWZeros
import Derived.Test.YtggjkjeenadbfaaWFoot
import Derived.Test.YtggjkjeenadbfaaWKept
import Derived.Test.YtggjkjeenadbfaaWShare
import Derived.Test.YtggjkjeenadbfaaWN
import Derived.Test.YtggjkjeenadbfaaWFootNe
import Derived.Test.YtggjkjeenadbfaaWAt
import Derived.Test.YtggjkjeenadbfaaWEqStruct
import Derived.Test.YtggjkjeenadbfaaWRepsOne
import Derived.Test.YtggjkjeenadbfaaWInv
import Derived.Test.YtggjkjeenadbfaaWInvWords
import Derived.Test.YtggjkjeenadbfaaWGuard
import Derived.Test.YtggjkjeenadbfaaWNEv
import Derived.Test.YtggjkjeenadbfaaWMore
namespace Go.Proofs.Ytggjkjeenadbfaa.PFlowSpends
open Go.RowKit Go.Proofs.YtggjkjeenadbfaaW.PrintWords Go.Proofs.YtggjkjeenadbfaaW.PrintLast Go.Proofs.YtggjkjeenadbfaaW.PrintMore
attribute [local go_sem] max2_int min2_int max_two min_two max_three min_three max_four min_four   -- for this text's walks alone
set_option linter.unusedVariables false
set_option linter.unusedSimpArgs false



def errW : Option Int → Value
  | none => .nilIface
  | some c => .iface 0 (.int .i64 c)
theorem errW_none : errW none = .nilIface := rfl
theorem errW_some (c : Int) : errW (some c) = .iface 0 (.int .i64 c) := rfl

-- the values' own types

end Go.Proofs.Ytggjkjeenadbfaa.PFlowSpends
