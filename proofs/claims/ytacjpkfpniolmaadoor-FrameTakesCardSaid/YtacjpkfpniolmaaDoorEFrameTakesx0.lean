-- Written by this session's own program (wip/tools/ext.py) for this claim; Lean checks it.
import Derived.Test.YtacjpkfpniolmaaDoorProg
import Derived.Below
import Derived.Deep.Draws
import Derived.Deep.AppendLies
import Derived.Maps.AppendAt
import Derived.OwnWalk
import Derived.Laws.BytesArg
import Derived.Laws.MakeOwn
import Derived.Laws.OwnMore
import Derived.Deep.OwnRows
import Derived.Tactics
import Derived.Lib.ConvBytes
import Derived.Laws.Slices
import Derived.WalkKit
import Derived.KernelRfl
import Derived.RowKit3
import Derived.Deep.LoopGhost
import Derived.Deep.QuietTactic
import Derived.BigQuiet
import Derived.WideLaws
import Derived.Deep.DeepCutAuto
import Derived.Deep.CutBlock
import Derived.Deep.RegionHeld3
import Derived.Laws.Rows
import Derived.Lib.AppendStr
import Derived.ArgAppend
import Derived.Laws.IdiomCopy
import Derived.OrdersHeld
import Derived.Laws.BitsLemmas
import Derived.RowKit
import Derived.Test.YtacjpkfpniolmaaDoorMBytes
import Derived.Test.YtacjpkfpniolmaaDoorMCrc
import Derived.Test.YtacjpkfpniolmaaDoorMFrame
import Derived.Test.YtacjpkfpniolmaaDoorMKit
import Derived.Test.YtacjpkfpniolmaaDoorMPlain
import Derived.Test.YtacjpkfpniolmaaDoorMRef01
import Derived.Test.YtacjpkfpniolmaaDoorMScan
import Derived.Test.YtacjpkfpniolmaaDoorMSorted
import Derived.Test.YtacjpkfpniolmaaDoorMSpan
import Derived.Test.YtacjpkfpniolmaaDoorMStr
import Derived.Test.YtacjpkfpniolmaaDoorMVarint
import Derived.Test.YtacjpkfpniolmaaDoorMZig
import Derived.Test.YtacjpkfpniolmaaDoorWWords
import Derived.Test.YtacjpkfpniolmaaDoorWLast
import Derived.Test.YtacjpkfpniolmaaDoorWTab
import Derived.Test.YtacjpkfpniolmaaDoorWQPut
import Derived.Test.YtacjpkfpniolmaaDoorWApart
import Derived.Test.YtacjpkfpniolmaaDoorWArr
import Derived.Test.YtacjpkfpniolmaaDoorWZeros
import Derived.Test.YtacjpkfpniolmaaDoorWFoot
import Derived.Test.YtacjpkfpniolmaaDoorWKept
import Derived.Test.YtacjpkfpniolmaaDoorWShare
import Derived.Test.YtacjpkfpniolmaaDoorWN
import Derived.Test.YtacjpkfpniolmaaDoorWRepsOne
import Derived.Test.YtacjpkfpniolmaaDoorWInv
import Derived.Test.YtacjpkfpniolmaaDoorWGuard
import Derived.Test.YtacjpkfpniolmaaDoorWNEv
import Derived.Test.YtacjpkfpniolmaaDoorWMore
namespace Go.Proofs.YtacjpkfpniolmaaDoor.EFrameTakes
open Go.RowKit Go.Proofs.YtacjpkfpniolmaaDoorW.PrintWords Go.Proofs.YtacjpkfpniolmaaDoorW.PrintLast Go.Proofs.YtacjpkfpniolmaaDoorW.PrintMore
attribute [local go_sem] M.run_leq M.run_gtr M.run_geq max2_int min2_int max_two min_two max_three min_three max_four min_four   -- for this text's walks alone
set_option linter.unusedVariables false
set_option linter.unusedSimpArgs false



def errW : Option Int → Value
  | none => .nilIface
  | some c => .iface 0 (.int .i64 c)
theorem errW_none : errW none = .nilIface := rfl
theorem errW_some (c : Int) : errW (some c) = .iface 0 (.int .i64 c) := rfl

theorem info3 : (Tryd.prog.info? 3).map (fun i => (i.zero, i.size, i.bytes)) = some (some (.int .i64 0), 1, 8) := by kernel_rfl
theorem info5 : (Tryd.prog.info? 5).map (fun i => (i.zero, i.size, i.bytes)) = some (some (.int .u8 0), 1, 1) := by kernel_rfl
theorem info9 : (Tryd.prog.info? 9).map (fun i => (i.zero, i.size, i.bytes)) = some (some (.string ⟨#[]⟩), 1, 16) := by kernel_rfl
theorem info55 : (Tryd.prog.info? 55).map (fun i => (i.zero, i.size, i.bytes)) = some (some (.int .u32 0), 1, 4) := by kernel_rfl
-- the values' own types

end Go.Proofs.YtacjpkfpniolmaaDoor.EFrameTakes
