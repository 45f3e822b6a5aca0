-- PRINTED BY print.sh 35421559b90ae4d0a3588c463048766b98c2df88dd9212a6774a882060cdf62d: not written by this session
import Derived.Test.YtlhhjdhbkhjhjaaProg
import Derived.Below
import Derived.Deep.Draws
import Derived.Deep.AppendLies
import Derived.Maps.AppendAt
import Derived.OwnWalk
import Derived.Laws.BytesArg
import Derived.Laws.MakeOwn
import Derived.Laws.OwnMore
import Derived.Deep.OwnRows
import Derived.Tactics
import Derived.Lib.ConvBytes
import Derived.Laws.Slices
import Derived.WalkKit
import Derived.KernelRfl
import Derived.RowKit3
import Derived.Deep.LoopGhost
import Derived.Deep.QuietTactic
import Derived.BigQuiet
import Derived.WideLaws
import Derived.Deep.DeepCutAuto
import Derived.Deep.CutBlock
import Derived.Deep.RegionHeld3
import Derived.Laws.Rows
import Derived.Lib.AppendStr
import Derived.ArgAppend
import Derived.Laws.IdiomCopy
import Derived.OrdersHeld
import Derived.Laws.BitsLemmas
import Derived.RowKit
import Derived.Test.YtlhhjdhbkhjhjaaWWords
import Derived.Test.YtlhhjdhbkhjhjaaWLast
import Derived.Test.YtlhhjdhbkhjhjaaWTab
import Derived.Test.YtlhhjdhbkhjhjaaWFour
import Derived.Test.YtlhhjdhbkhjhjaaWQPut
import Derived.Test.YtlhhjdhbkhjhjaaWApart
import Derived.Test.YtlhhjdhbkhjhjaaWArr
import Derived.Test.YtlhhjdhbkhjhjaaWZeros
import Derived.Test.YtlhhjdhbkhjhjaaWFoot
import Derived.Test.YtlhhjdhbkhjhjaaWKept
import Derived.Test.YtlhhjdhbkhjhjaaWShare
import Derived.Test.YtlhhjdhbkhjhjaaWN
import Derived.Test.YtlhhjdhbkhjhjaaWFootNe
import Derived.Test.YtlhhjdhbkhjhjaaWAt
import Derived.Test.YtlhhjdhbkhjhjaaWEqStruct
import Derived.Test.YtlhhjdhbkhjhjaaWRepsOne
import Derived.Test.YtlhhjdhbkhjhjaaWInv
import Derived.Test.YtlhhjdhbkhjhjaaWInvWords
import Derived.Test.YtlhhjdhbkhjhjaaWGuard
import Derived.Test.YtlhhjdhbkhjhjaaWNEv
import Derived.Test.YtlhhjdhbkhjhjaaWMore
namespace Go.Proofs.Ytlhhjdhbkhjhjaa.PPolyTags
open Go.RowKit Go.Proofs.YtlhhjdhbkhjhjaaW.PrintWords Go.Proofs.YtlhhjdhbkhjhjaaW.PrintLast Go.Proofs.YtlhhjdhbkhjhjaaW.PrintMore
attribute [local go_sem] max2_int min2_int max_two min_two max_three min_three max_four min_four   -- for this text's walks alone
set_option linter.unusedVariables false
set_option linter.unusedSimpArgs false



def errW : Option Int → Value
  | none => .nilIface
  | some c => .iface 0 (.int .i64 c)
theorem errW_none : errW none = .nilIface := rfl
theorem errW_some (c : Int) : errW (some c) = .iface 0 (.int .i64 c) := rfl

theorem info37 : (Try.prog.info? 37).map (fun i => (i.zero, i.size, i.bytes)) = some (some (.int .u64 0), 1, 8) := by kernel_rfl
-- the values' own types

end Go.Proofs.Ytlhhjdhbkhjhjaa.PPolyTags
