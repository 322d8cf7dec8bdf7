-- Written by this session's own program (wip/tools/ext.py) for this claim; Lean checks it.
import Derived.Test.YtccekjebfafgcaaDoorProg
import Derived.Below
import Derived.Deep.Draws
import Derived.Deep.AppendLies
import Derived.Maps.AppendAt
import Derived.OwnWalk
import Derived.Laws.BytesArg
import Derived.Laws.MakeOwn
import Derived.Laws.OwnMore
import Derived.Deep.OwnRows
import Derived.Tactics
import Derived.Lib.ConvBytes
import Derived.Laws.Slices
import Derived.WalkKit
import Derived.KernelRfl
import Derived.RowKit3
import Derived.Deep.LoopGhost
import Derived.Deep.QuietTactic
import Derived.BigQuiet
import Derived.WideLaws
import Derived.Deep.DeepCutAuto
import Derived.Deep.CutBlock
import Derived.Deep.RegionHeld3
import Derived.Laws.Rows
import Derived.Lib.AppendStr
import Derived.ArgAppend
import Derived.Laws.IdiomCopy
import Derived.OrdersHeld
import Derived.Laws.BitsLemmas
import Derived.RowKit
import Derived.Deep.RegionLaw
import Derived.Test.YtccekjebfafgcaaDoorMBytes
import Derived.Test.YtccekjebfafgcaaDoorMCrc
import Derived.Test.YtccekjebfafgcaaDoorMFrame
import Derived.Test.YtccekjebfafgcaaDoorMKit
import Derived.Test.YtccekjebfafgcaaDoorMPlain
import Derived.Test.YtccekjebfafgcaaDoorMRef01
import Derived.Test.YtccekjebfafgcaaDoorMScan
import Derived.Test.YtccekjebfafgcaaDoorMSorted
import Derived.Test.YtccekjebfafgcaaDoorMSpan
import Derived.Test.YtccekjebfafgcaaDoorMStr
import Derived.Test.YtccekjebfafgcaaDoorMVarint
import Derived.Test.YtccekjebfafgcaaDoorMZig
import Derived.Test.YtccekjebfafgcaaDoorMArr
import Derived.Test.YtccekjebfafgcaaDoorMHash
import Derived.Test.YtccekjebfafgcaaDoorMSha
import Derived.Test.YtccekjebfafgcaaDoorMShelf
import Derived.Test.YtccekjebfafgcaaDoorWWords
import Derived.Test.YtccekjebfafgcaaDoorWLast
import Derived.Test.YtccekjebfafgcaaDoorWTab
import Derived.Test.YtccekjebfafgcaaDoorWFour
import Derived.Test.YtccekjebfafgcaaDoorWQPut
import Derived.Test.YtccekjebfafgcaaDoorWApart
import Derived.Test.YtccekjebfafgcaaDoorWArr
import Derived.Test.YtccekjebfafgcaaDoorWZeros
import Derived.Test.YtccekjebfafgcaaDoorWFoot
import Derived.Test.YtccekjebfafgcaaDoorWKept
import Derived.Test.YtccekjebfafgcaaDoorWShare
import Derived.Test.YtccekjebfafgcaaDoorWN
import Derived.Test.YtccekjebfafgcaaDoorWFootNe
import Derived.Test.YtccekjebfafgcaaDoorWAt
import Derived.Test.YtccekjebfafgcaaDoorWEqStruct
import Derived.Test.YtccekjebfafgcaaDoorWRepsOne
import Derived.Test.YtccekjebfafgcaaDoorWInv
import Derived.Test.YtccekjebfafgcaaDoorWInvWords
import Derived.Test.YtccekjebfafgcaaDoorWGuard
import Derived.Test.YtccekjebfafgcaaDoorWNEv
import Derived.Test.YtccekjebfafgcaaDoorWMore
namespace Go.Proofs.YtccekjebfafgcaaDoor.EShelfGot
open Go.RowKit Go.Proofs.YtccekjebfafgcaaDoorW.PrintWords Go.Proofs.YtccekjebfafgcaaDoorW.PrintLast Go.Proofs.YtccekjebfafgcaaDoorW.PrintMore
attribute [local go_sem] M.run_leq M.run_gtr M.run_geq max2_int min2_int max_two min_two max_three min_three max_four min_four   -- for this text's walks alone
set_option linter.unusedVariables false
set_option linter.unusedSimpArgs false



def errW : Option Int → Value
  | none => .nilIface
  | some c => .iface 0 (.int .i64 c)
theorem errW_none : errW none = .nilIface := rfl
theorem errW_some (c : Int) : errW (some c) = .iface 0 (.int .i64 c) := rfl

theorem info5 : (Tryd.prog.info? 5).map (fun i => (i.zero, i.size, i.bytes)) = some (some (.int .u8 0), 1, 1) := by kernel_rfl
theorem info75 : (Tryd.prog.info? 75).map (fun i => (i.zero, i.size, i.bytes)) = some (some (.int .u32 0), 1, 4) := by kernel_rfl
-- the values' own types
def rd_L3 (xs : List (List ByteArray)) (i : Int) : (List ByteArray) := xs.getD i.toNat ([] : List ByteArray)
theorem at_L3 {w : World} {A : Option Addr} {n : Nat} {xs : List (List ByteArray)} (h : Kd.C (Kd.slice 9 Kd.string) w A n xs) (i : Int) (h0 : 0 ≤ i) (h1 : i < n) : ∃ ad A0 c0, A = some ad ∧ w.cell? (ad.add i.toNat) = some (.slice A0 (rd_L3 xs i).length c0) ∧ (rd_L3 xs i).length ≤ c0 ∧ Kd.string.C w A0 (rd_L3 xs i).length (rd_L3 xs i) := by
  obtain ⟨ad, c, e, _, hK, hc0⟩ := Kd.C_get h ([] : List ByteArray) i h0 h1
  have hc : ∀ j u, c[j]? = some u → w.cell? (ad.add (i.toNat * 1 + j)) = some u := hc0
  obtain ⟨A0, c0, rfl, l0, g0⟩ := hK
  exact ⟨ad, A0, c0, e, by have hq := hc 0 _ rfl; rwa [Nat.mul_one, Nat.add_zero] at hq, l0, g0⟩

end Go.Proofs.YtccekjebfafgcaaDoor.EShelfGot
