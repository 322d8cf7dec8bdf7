-- Written by this session's own program (wip/tools/ext.py) for this claim; Lean checks it.
import Derived.Test.YtikdbklmhjlfoaaDoorProg
import Derived.Below
import Derived.Deep.Draws
import Derived.Deep.AppendLies
import Derived.Maps.AppendAt
import Derived.OwnWalk
import Derived.Laws.BytesArg
import Derived.Laws.MakeOwn
import Derived.Laws.OwnMore
import Derived.Deep.OwnRows
import Derived.Tactics
import Derived.Lib.ConvBytes
import Derived.Laws.Slices
import Derived.WalkKit
import Derived.KernelRfl
import Derived.RowKit3
import Derived.Deep.LoopGhost
import Derived.Deep.QuietTactic
import Derived.BigQuiet
import Derived.WideLaws
import Derived.Deep.DeepCutAuto
import Derived.Deep.CutBlock
import Derived.Deep.RegionHeld3
import Derived.Laws.Rows
import Derived.Lib.AppendStr
import Derived.ArgAppend
import Derived.Laws.IdiomCopy
import Derived.OrdersHeld
import Derived.Laws.BitsLemmas
import Derived.RowKit
import Derived.Deep.RegionLaw
import Derived.Test.YtikdbklmhjlfoaaDoorCCommitPutsMBytes
import Derived.Test.YtikdbklmhjlfoaaDoorCCommitPutsMCrc
import Derived.Test.YtikdbklmhjlfoaaDoorCCommitPutsMFrame
import Derived.Test.YtikdbklmhjlfoaaDoorCCommitPutsMKit
import Derived.Test.YtikdbklmhjlfoaaDoorCCommitPutsMPlain
import Derived.Test.YtikdbklmhjlfoaaDoorCCommitPutsMRef01
import Derived.Test.YtikdbklmhjlfoaaDoorCCommitPutsMScan
import Derived.Test.YtikdbklmhjlfoaaDoorCCommitPutsMSorted
import Derived.Test.YtikdbklmhjlfoaaDoorCCommitPutsMSpan
import Derived.Test.YtikdbklmhjlfoaaDoorCCommitPutsMStr
import Derived.Test.YtikdbklmhjlfoaaDoorCCommitPutsMVarint
import Derived.Test.YtikdbklmhjlfoaaDoorCCommitPutsMZig
import Derived.Test.YtikdbklmhjlfoaaDoorCCommitPutsMArr
import Derived.Test.YtikdbklmhjlfoaaDoorCCommitPutsMCommit
import Derived.Test.YtikdbklmhjlfoaaDoorCCommitPutsMHash
import Derived.Test.YtikdbklmhjlfoaaDoorCCommitPutsMRec
import Derived.Test.YtikdbklmhjlfoaaDoorCCommitPutsMSha
import Derived.Test.YtikdbklmhjlfoaaDoorCCommitPutsMShelf
import Derived.Test.YtikdbklmhjlfoaaDoorCCommitPutsWWords
import Derived.Test.YtikdbklmhjlfoaaDoorCCommitPutsWLast
import Derived.Test.YtikdbklmhjlfoaaDoorCCommitPutsWTab
import Derived.Test.YtikdbklmhjlfoaaDoorCCommitPutsWQPut
import Derived.Test.YtikdbklmhjlfoaaDoorCCommitPutsWApart
import Derived.Test.YtikdbklmhjlfoaaDoorCCommitPutsWArr
import Derived.Test.YtikdbklmhjlfoaaDoorCCommitPutsWZeros
import Derived.Test.YtikdbklmhjlfoaaDoorCCommitPutsWFoot
import Derived.Test.YtikdbklmhjlfoaaDoorCCommitPutsWKept
import Derived.Test.YtikdbklmhjlfoaaDoorCCommitPutsWShare
import Derived.Test.YtikdbklmhjlfoaaDoorCCommitPutsWN
import Derived.Test.YtikdbklmhjlfoaaDoorCCommitPutsWRepsOne
import Derived.Test.YtikdbklmhjlfoaaDoorCCommitPutsWInv
import Derived.Test.YtikdbklmhjlfoaaDoorCCommitPutsWGuard
import Derived.Test.YtikdbklmhjlfoaaDoorCCommitPutsWNEv
import Derived.Test.YtikdbklmhjlfoaaDoorCCommitPutsWMore
namespace Go.Proofs.YtikdbklmhjlfoaaDoor.ECommitPuts
open Go.RowKit Go.Proofs.YtikdbklmhjlfoaaDoorW.PrintWords Go.Proofs.YtikdbklmhjlfoaaDoorW.PrintLast Go.Proofs.YtikdbklmhjlfoaaDoorW.PrintMore
attribute [local go_sem] M.run_leq M.run_gtr M.run_geq max2_int min2_int max_two min_two max_three min_three max_four min_four   -- for this text's walks alone
set_option linter.unusedVariables false
set_option linter.unusedSimpArgs false



def errW : Option Int → Value
  | none => .nilIface
  | some c => .iface 0 (.int .i64 c)
theorem errW_none : errW none = .nilIface := rfl
theorem errW_some (c : Int) : errW (some c) = .iface 0 (.int .i64 c) := rfl

theorem info3 : (Tryd.prog.info? 3).map (fun i => (i.zero, i.size, i.bytes)) = some (some (.int .i64 0), 1, 8) := by kernel_rfl
theorem info5 : (Tryd.prog.info? 5).map (fun i => (i.zero, i.size, i.bytes)) = some (some (.int .u8 0), 1, 1) := by kernel_rfl
theorem info9 : (Tryd.prog.info? 9).map (fun i => (i.zero, i.size, i.bytes)) = some (some (.string ⟨#[]⟩), 1, 16) := by kernel_rfl
-- the values' own types
def rd_L3 (xs : List (List ByteArray)) (i : Int) : (List ByteArray) := xs.getD i.toNat ([] : List ByteArray)
theorem at_L3 {w : World} {A : Option Addr} {n : Nat} {xs : List (List ByteArray)} (h : Kd.C (Kd.slice 9 Kd.string) w A n xs) (i : Int) (h0 : 0 ≤ i) (h1 : i < n) : ∃ ad A0 c0, A = some ad ∧ w.cell? (ad.add i.toNat) = some (.slice A0 (rd_L3 xs i).length c0) ∧ (rd_L3 xs i).length ≤ c0 ∧ Kd.string.C w A0 (rd_L3 xs i).length (rd_L3 xs i) := by
  obtain ⟨ad, c, e, _, hK, hc0⟩ := Kd.C_get h ([] : List ByteArray) i h0 h1
  have hc : ∀ j u, c[j]? = some u → w.cell? (ad.add (i.toNat * 1 + j)) = some u := hc0
  obtain ⟨A0, c0, rfl, l0, g0⟩ := hK
  exact ⟨ad, A0, c0, e, by have hq := hc 0 _ rfl; rwa [Nat.mul_one, Nat.add_zero] at hq, l0, g0⟩

end Go.Proofs.YtikdbklmhjlfoaaDoor.ECommitPuts
