/-
  No cell of these rows narrows 'for every input' (looked for: loops, veiled, ifaces, maps, wideKeys, modest, calm, conditions, laid).
  DERIVED. THE GIVEN ROWS OF THIS SEAT. 3 by the template 'for every input the law returns true; each argument reads behind the call as it read before'; 0 by the template 'total and deterministic' (their statements: YtbjcpdeinmlbhaaTotals.lean).
  GIVEN WITH THE SEED: the statements are not yours to turn. If you find one false, say at which input.
  Laid BY PROGRAM, IN A SANDBOX (cutbox-rows.mjs): the forced cells as the released guide's own fill.sh prints them over the translation c2eec1c2f40c84dd… (all of the seat's roots in one cut). By AI agents, Wed Nov 11 2026. No macro, syntax, notation, axiom, sorry.
-/
import Derived.Test.YtbjcpdeinmlbhaaChecked
import GoSem.Claim
import GoSem.ClaimJoined
import GoSem.ClaimMapViews
import Derived.JoinedTies
import Derived.KernelRfl
namespace Go.Proofs.Ytbjcpdeinmlbhaa
/- THE CELL 'sum', in the pinned program and in every row, IS THE sha256 OF THE DUMP (.gsa) THAT YtbjcpdeinmlbhaaProg.lean LOADS. Nothing in Lean hashes anything: it is a label: what it is worth is what the hold of that sum in a sandbox is worth. -/
noncomputable def Try.pinned : Pinned := { name := "ytbjcpdeinmlbhaa", sum := "c2eec1c2f40c84dd4d58294dbf6b242051bdeea110eab2f09139b6171fec0293", checked := Try.checked }
namespace Rows
def none {H : Type} : Left H := { results := [], args := [] }

/-- 'pleachlaw12.FanTells': WHATEVER THE INPUT: true; the input reads as it did. -/
def fanTellsSpec : ChangeSpec := { name := "fanTells", fn := fun _ => fun
  | [d1, d2] => { results := [.lit (.bool true)], args := [d1, d2] }
  | _ => none }
def fanTellsRow : OpenClaim := { program := "ytbjcpdeinmlbhaa", sum := "c2eec1c2f40c84dd4d58294dbf6b242051bdeea110eab2f09139b6171fec0293", func := "pleach/pleachlaw12.FanTells", spec := "fanTells", apart := false }
def FanTellsSaid : Prop := fanTellsRow.holds Try.pinned (OpenSpec.ofChange fanTellsSpec)

/-- ITS FALSE NEIGHBOUR: 'it returns false'. Refute it at one input. -/
def fanTellsWrong : ChangeSpec := { name := "fanTells", fn := fun _ => fun
  | [d1, d2] => { results := [.lit (.bool false)], args := [d1, d2] }
  | _ => none }
def FanTellsWrongFalsely : Prop := fanTellsRow.holds Try.pinned (OpenSpec.ofChange fanTellsWrong)

/-- 'pleachlaw12.FanFinds': WHATEVER THE INPUT: true; the input reads as it did. -/
def fanFindsSpec : ChangeSpec := { name := "fanFinds", fn := fun _ => fun
  | [d1, d2] => { results := [.lit (.bool true)], args := [d1, d2] }
  | _ => none }
def fanFindsRow : OpenClaim := { program := "ytbjcpdeinmlbhaa", sum := "c2eec1c2f40c84dd4d58294dbf6b242051bdeea110eab2f09139b6171fec0293", func := "pleach/pleachlaw12.FanFinds", spec := "fanFinds", apart := false }
def FanFindsSaid : Prop := fanFindsRow.holds Try.pinned (OpenSpec.ofChange fanFindsSpec)

/-- ITS FALSE NEIGHBOUR: 'it returns false'. Refute it at one input. -/
def fanFindsWrong : ChangeSpec := { name := "fanFinds", fn := fun _ => fun
  | [d1, d2] => { results := [.lit (.bool false)], args := [d1, d2] }
  | _ => none }
def FanFindsWrongFalsely : Prop := fanFindsRow.holds Try.pinned (OpenSpec.ofChange fanFindsWrong)

/-- 'pleachlaw12.FanAny': WHATEVER THE INPUT: true; the input reads as it did. -/
def fanAnySpec : ChangeSpec := { name := "fanAny", fn := fun _ => fun
  | [d1, d2, d3] => { results := [.lit (.bool true)], args := [d1, d2, d3] }
  | _ => none }
def fanAnyRow : OpenClaim := { program := "ytbjcpdeinmlbhaa", sum := "c2eec1c2f40c84dd4d58294dbf6b242051bdeea110eab2f09139b6171fec0293", func := "pleach/pleachlaw12.FanAny", spec := "fanAny", apart := false }
def FanAnySaid : Prop := fanAnyRow.holds Try.pinned (OpenSpec.ofChange fanAnySpec)

/-- ITS FALSE NEIGHBOUR: 'it returns false'. Refute it at one input. -/
def fanAnyWrong : ChangeSpec := { name := "fanAny", fn := fun _ => fun
  | [d1, d2, d3] => { results := [.lit (.bool false)], args := [d1, d2, d3] }
  | _ => none }
def FanAnyWrongFalsely : Prop := fanAnyRow.holds Try.pinned (OpenSpec.ofChange fanAnyWrong)

/- THE SECOND FORM. 'bulk': how many values and letters a reading holds, each counted each time it is reached (what is shared counts as often as it is met; a slice's spare places count too). A statement '..UptoSaid' is the law's where the arguments, and the package variables that the reading takes, are together of bulk at most 1048576: NARROWER than '..Said'. Prove '..Said' where nothing that the law and all that it calls make is longer than what came in: it says more and counts as full. Else prove '..UptoSaid'. A law counts once. -/
mutual
def uptoBulk {H : Type} : DataW H → Nat
  | .lit (.string bytes) => bytes.length + 1
  | .lit _ => 1
  | .nil => 1
  | .ptr d => uptoBulk d + 1
  | .slice elems spare => uptoBulkAll elems + uptoBulkAll spare + 1
  | .agg parts => uptoBulkAll parts + 1
  | .iface _ d => uptoBulk d + 1
  | .map entries => uptoBulkEntries entries + 1
  | .held _ => 1
def uptoBulkAll {H : Type} : List (DataW H) → Nat
  | [] => 0
  | d :: r => uptoBulk d + uptoBulkAll r
def uptoBulkEntries {H : Type} : List (Lit × DataW H) → Nat
  | [] => 0
  | x :: r => uptoBulkEntry x + uptoBulkEntries r
def uptoBulkEntry {H : Type} : Lit × DataW H → Nat
  | (.string bytes, d) => bytes.length + uptoBulk d + 1
  | (_, d) => uptoBulk d + 1
 end
def uptoSmall : (H : Type) → List (DataW H) → Bool := fun _ ds => decide (uptoBulkAll ds ≤ 1048576)
def OpenSpec.upto (s : _root_.Go.ChangeSpec) : _root_.Go.OpenSpec := { _root_.Go.OpenSpec.ofChange s with cond := some uptoSmall }

/-- 'pleachlaw12.FanTells', WHERE WHAT IT READS IS OF BULK AT MOST 1048576: true; the input reads as it did. -/
def fanTellsUptoRow : OpenClaim := { program := "ytbjcpdeinmlbhaa", sum := "c2eec1c2f40c84dd4d58294dbf6b242051bdeea110eab2f09139b6171fec0293", func := "pleach/pleachlaw12.FanTells", spec := "fanTells", apart := false, narrowed := true }
def FanTellsUptoSaid : Prop := fanTellsUptoRow.holds Try.pinned (OpenSpec.upto fanTellsSpec)

/-- 'pleachlaw12.FanFinds', WHERE WHAT IT READS IS OF BULK AT MOST 1048576: true; the input reads as it did. -/
def fanFindsUptoRow : OpenClaim := { program := "ytbjcpdeinmlbhaa", sum := "c2eec1c2f40c84dd4d58294dbf6b242051bdeea110eab2f09139b6171fec0293", func := "pleach/pleachlaw12.FanFinds", spec := "fanFinds", apart := false, narrowed := true }
def FanFindsUptoSaid : Prop := fanFindsUptoRow.holds Try.pinned (OpenSpec.upto fanFindsSpec)

/-- 'pleachlaw12.FanAny', WHERE WHAT IT READS IS OF BULK AT MOST 1048576: true; the input reads as it did. -/
def fanAnyUptoRow : OpenClaim := { program := "ytbjcpdeinmlbhaa", sum := "c2eec1c2f40c84dd4d58294dbf6b242051bdeea110eab2f09139b6171fec0293", func := "pleach/pleachlaw12.FanAny", spec := "fanAny", apart := false, narrowed := true }
def FanAnyUptoSaid : Prop := fanAnyUptoRow.holds Try.pinned (OpenSpec.upto fanAnySpec)

end Rows
end Go.Proofs.Ytbjcpdeinmlbhaa
