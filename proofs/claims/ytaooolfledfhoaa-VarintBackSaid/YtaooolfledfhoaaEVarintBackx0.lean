-- Written by this session's own program (wip/tools/ext.py) for this claim; Lean checks it.
import Derived.Test.YtaooolfledfhoaaProg
import Derived.Below
import Derived.Deep.Draws
import Derived.Deep.AppendLies
import Derived.Maps.AppendAt
import Derived.OwnWalk
import Derived.Laws.BytesArg
import Derived.Laws.MakeOwn
import Derived.Laws.OwnMore
import Derived.Deep.OwnRows
import Derived.Tactics
import Derived.Lib.ConvBytes
import Derived.Laws.Slices
import Derived.WalkKit
import Derived.KernelRfl
import Derived.RowKit3
import Derived.Deep.LoopGhost
import Derived.Deep.QuietTactic
import Derived.BigQuiet
import Derived.WideLaws
import Derived.Deep.DeepCutAuto
import Derived.Deep.CutBlock
import Derived.Deep.RegionHeld3
import Derived.Laws.Rows
import Derived.Lib.AppendStr
import Derived.ArgAppend
import Derived.Laws.IdiomCopy
import Derived.OrdersHeld
import Derived.Laws.BitsLemmas
import Derived.RowKit
import Derived.Test.YtaooolfledfhoaaMBytes
import Derived.Test.YtaooolfledfhoaaMRef01
import Derived.Test.YtaooolfledfhoaaMVarint
import Derived.Test.YtaooolfledfhoaaMZig
import Derived.Test.YtaooolfledfhoaaWWords
import Derived.Test.YtaooolfledfhoaaWLast
import Derived.Test.YtaooolfledfhoaaWTab
import Derived.Test.YtaooolfledfhoaaWFour
import Derived.Test.YtaooolfledfhoaaWQPut
import Derived.Test.YtaooolfledfhoaaWApart
import Derived.Test.YtaooolfledfhoaaWArr
import Derived.Test.YtaooolfledfhoaaWZeros
import Derived.Test.YtaooolfledfhoaaWFoot
import Derived.Test.YtaooolfledfhoaaWKept
import Derived.Test.YtaooolfledfhoaaWShare
import Derived.Test.YtaooolfledfhoaaWN
import Derived.Test.YtaooolfledfhoaaWFootNe
import Derived.Test.YtaooolfledfhoaaWAt
import Derived.Test.YtaooolfledfhoaaWEqStruct
import Derived.Test.YtaooolfledfhoaaWRepsOne
import Derived.Test.YtaooolfledfhoaaWInv
import Derived.Test.YtaooolfledfhoaaWInvWords
import Derived.Test.YtaooolfledfhoaaWGuard
import Derived.Test.YtaooolfledfhoaaWNEv
import Derived.Test.YtaooolfledfhoaaWMore
namespace Go.Proofs.Ytaooolfledfhoaa.EVarintBack
open Go.RowKit Go.Proofs.YtaooolfledfhoaaW.PrintWords Go.Proofs.YtaooolfledfhoaaW.PrintLast Go.Proofs.YtaooolfledfhoaaW.PrintMore
attribute [local go_sem] max2_int min2_int max_two min_two max_three min_three max_four min_four   -- for this text's walks alone
set_option linter.unusedVariables false
set_option linter.unusedSimpArgs false



def errW : Option Int → Value
  | none => .nilIface
  | some c => .iface 0 (.int .i64 c)
theorem errW_none : errW none = .nilIface := rfl
theorem errW_some (c : Int) : errW (some c) = .iface 0 (.int .i64 c) := rfl

-- the values' own types

end Go.Proofs.Ytaooolfledfhoaa.EVarintBack
