-- Written by this session's own program (wip/tools/ext.py) for this claim; Lean checks it.
import Derived.Test.YtccekjebfafgcaaDoorProg
import Derived.Below
import Derived.Deep.Draws
import Derived.Deep.AppendLies
import Derived.Maps.AppendAt
import Derived.OwnWalk
import Derived.Laws.BytesArg
import Derived.Laws.MakeOwn
import Derived.Laws.OwnMore
import Derived.Deep.OwnRows
import Derived.Tactics
import Derived.Lib.ConvBytes
import Derived.Laws.Slices
import Derived.WalkKit
import Derived.KernelRfl
import Derived.RowKit3
import Derived.Deep.LoopGhost
import Derived.Deep.QuietTactic
import Derived.BigQuiet
import Derived.WideLaws
import Derived.Deep.DeepCutAuto
import Derived.Deep.CutBlock
import Derived.Deep.RegionHeld3
import Derived.Laws.Rows
import Derived.Lib.AppendStr
import Derived.ArgAppend
import Derived.Laws.IdiomCopy
import Derived.OrdersHeld
import Derived.Laws.BitsLemmas
import Derived.RowKit
import Derived.Deep.RegionLaw
import Derived.Test.YtccekjebfafgcaaDoorCShelfNobodyMBytes
import Derived.Test.YtccekjebfafgcaaDoorCShelfNobodyMCrc
import Derived.Test.YtccekjebfafgcaaDoorCShelfNobodyMFrame
import Derived.Test.YtccekjebfafgcaaDoorCShelfNobodyMKit
import Derived.Test.YtccekjebfafgcaaDoorCShelfNobodyMPlain
import Derived.Test.YtccekjebfafgcaaDoorCShelfNobodyMRef01
import Derived.Test.YtccekjebfafgcaaDoorCShelfNobodyMScan
import Derived.Test.YtccekjebfafgcaaDoorCShelfNobodyMSorted
import Derived.Test.YtccekjebfafgcaaDoorCShelfNobodyMSpan
import Derived.Test.YtccekjebfafgcaaDoorCShelfNobodyMStr
import Derived.Test.YtccekjebfafgcaaDoorCShelfNobodyMVarint
import Derived.Test.YtccekjebfafgcaaDoorCShelfNobodyMZig
import Derived.Test.YtccekjebfafgcaaDoorCShelfNobodyMArr
import Derived.Test.YtccekjebfafgcaaDoorCShelfNobodyMHash
import Derived.Test.YtccekjebfafgcaaDoorCShelfNobodyMRow
import Derived.Test.YtccekjebfafgcaaDoorCShelfNobodyMSha
import Derived.Test.YtccekjebfafgcaaDoorCShelfNobodyMShelf
import Derived.Test.YtccekjebfafgcaaDoorCShelfNobodyMSort
import Derived.Test.YtccekjebfafgcaaDoorCShelfNobodyWWords
import Derived.Test.YtccekjebfafgcaaDoorCShelfNobodyWLast
import Derived.Test.YtccekjebfafgcaaDoorCShelfNobodyWTab
import Derived.Test.YtccekjebfafgcaaDoorCShelfNobodyWQPut
import Derived.Test.YtccekjebfafgcaaDoorCShelfNobodyWApart
import Derived.Test.YtccekjebfafgcaaDoorCShelfNobodyWArr
import Derived.Test.YtccekjebfafgcaaDoorCShelfNobodyWZeros
import Derived.Test.YtccekjebfafgcaaDoorCShelfNobodyWFoot
import Derived.Test.YtccekjebfafgcaaDoorCShelfNobodyWKept
import Derived.Test.YtccekjebfafgcaaDoorCShelfNobodyWShare
import Derived.Test.YtccekjebfafgcaaDoorCShelfNobodyWN
import Derived.Test.YtccekjebfafgcaaDoorCShelfNobodyWRepsOne
import Derived.Test.YtccekjebfafgcaaDoorCShelfNobodyWInv
import Derived.Test.YtccekjebfafgcaaDoorCShelfNobodyWNEv
import Derived.Test.YtccekjebfafgcaaDoorCShelfNobodyWMore
namespace Go.Proofs.YtccekjebfafgcaaDoor.EShelfNobody
open Go.RowKit Go.Proofs.YtccekjebfafgcaaDoorW.PrintWords Go.Proofs.YtccekjebfafgcaaDoorW.PrintLast Go.Proofs.YtccekjebfafgcaaDoorW.PrintMore
attribute [local go_sem] M.run_leq M.run_gtr M.run_geq max2_int min2_int max_two min_two max_three min_three max_four min_four   -- for this text's walks alone
set_option linter.unusedVariables false
set_option linter.unusedSimpArgs false



def errW : Option Int → Value
  | none => .nilIface
  | some c => .iface 0 (.int .i64 c)
theorem errW_none : errW none = .nilIface := rfl
theorem errW_some (c : Int) : errW (some c) = .iface 0 (.int .i64 c) := rfl

theorem info5 : (Tryd.prog.info? 5).map (fun i => (i.zero, i.size, i.bytes)) = some (some (.int .u8 0), 1, 1) := by kernel_rfl
theorem info75 : (Tryd.prog.info? 75).map (fun i => (i.zero, i.size, i.bytes)) = some (some (.int .u32 0), 1, 4) := by kernel_rfl
-- the values' own types

end Go.Proofs.YtccekjebfafgcaaDoor.EShelfNobody
