-- Written by this session's own program (wip/tools/ext.py) for this claim; Lean checks it.
import Derived.Test.YtnmimkoehgdehaaProg
import Derived.Below
import Derived.Deep.Draws
import Derived.Deep.AppendLies
import Derived.Maps.AppendAt
import Derived.OwnWalk
import Derived.Laws.BytesArg
import Derived.Laws.MakeOwn
import Derived.Laws.OwnMore
import Derived.Deep.OwnRows
import Derived.Tactics
import Derived.Lib.ConvBytes
import Derived.Laws.Slices
import Derived.WalkKit
import Derived.KernelRfl
import Derived.RowKit3
import Derived.Deep.LoopGhost
import Derived.Deep.QuietTactic
import Derived.BigQuiet
import Derived.WideLaws
import Derived.Deep.DeepCutAuto
import Derived.Deep.CutBlock
import Derived.Deep.RegionHeld3
import Derived.Laws.Rows
import Derived.Lib.AppendStr
import Derived.ArgAppend
import Derived.Laws.IdiomCopy
import Derived.OrdersHeld
import Derived.Laws.BitsLemmas
import Derived.RowKit
import Derived.Test.YtnmimkoehgdehaaMBytes
import Derived.Test.YtnmimkoehgdehaaMCrc
import Derived.Test.YtnmimkoehgdehaaMFrame
import Derived.Test.YtnmimkoehgdehaaMKit
import Derived.Test.YtnmimkoehgdehaaMPlain
import Derived.Test.YtnmimkoehgdehaaMRef01
import Derived.Test.YtnmimkoehgdehaaMScan
import Derived.Test.YtnmimkoehgdehaaMSorted
import Derived.Test.YtnmimkoehgdehaaMSpan
import Derived.Test.YtnmimkoehgdehaaMStr
import Derived.Test.YtnmimkoehgdehaaMVarint
import Derived.Test.YtnmimkoehgdehaaMZig
import Derived.Test.YtnmimkoehgdehaaWWords
import Derived.Test.YtnmimkoehgdehaaWLast
import Derived.Test.YtnmimkoehgdehaaWTab
import Derived.Test.YtnmimkoehgdehaaWFour
import Derived.Test.YtnmimkoehgdehaaWQPut
import Derived.Test.YtnmimkoehgdehaaWApart
import Derived.Test.YtnmimkoehgdehaaWArr
import Derived.Test.YtnmimkoehgdehaaWZeros
import Derived.Test.YtnmimkoehgdehaaWFoot
import Derived.Test.YtnmimkoehgdehaaWKept
import Derived.Test.YtnmimkoehgdehaaWShare
import Derived.Test.YtnmimkoehgdehaaWN
import Derived.Test.YtnmimkoehgdehaaWFootNe
import Derived.Test.YtnmimkoehgdehaaWAt
import Derived.Test.YtnmimkoehgdehaaWEqStruct
import Derived.Test.YtnmimkoehgdehaaWRepsOne
import Derived.Test.YtnmimkoehgdehaaWInv
import Derived.Test.YtnmimkoehgdehaaWInvWords
import Derived.Test.YtnmimkoehgdehaaWGuard
import Derived.Test.YtnmimkoehgdehaaWNEv
import Derived.Test.YtnmimkoehgdehaaWMore
namespace Go.Proofs.Ytnmimkoehgdehaa.EScanNobody
open Go.RowKit Go.Proofs.YtnmimkoehgdehaaW.PrintWords Go.Proofs.YtnmimkoehgdehaaW.PrintLast Go.Proofs.YtnmimkoehgdehaaW.PrintMore
attribute [local go_sem] M.run_leq M.run_gtr M.run_geq max2_int min2_int max_two min_two max_three min_three max_four min_four   -- for this text's walks alone
set_option linter.unusedVariables false
set_option linter.unusedSimpArgs false



def errW : Option Int → Value
  | none => .nilIface
  | some c => .iface 0 (.int .i64 c)
theorem errW_none : errW none = .nilIface := rfl
theorem errW_some (c : Int) : errW (some c) = .iface 0 (.int .i64 c) := rfl

-- the values' own types

end Go.Proofs.Ytnmimkoehgdehaa.EScanNobody
