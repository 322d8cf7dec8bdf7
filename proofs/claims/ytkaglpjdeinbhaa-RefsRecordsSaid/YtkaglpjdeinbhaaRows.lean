/-
  No cell of these rows narrows 'for every input' (looked for: loops, veiled, ifaces, maps, wideKeys, modest, calm, conditions, laid).
  DERIVED. THE GIVEN ROWS OF THIS SEAT. 4 by the template 'for every input the law returns true; each argument reads behind the call as it read before'; 0 by the template 'total and deterministic' (their statements: YtkaglpjdeinbhaaTotals.lean).
  GIVEN WITH THE SEED: the statements are not yours to turn. If you find one false, say at which input.
  Laid BY PROGRAM, IN A SANDBOX (cutbox-rows.mjs): the forced cells as the released guide's own fill.sh prints them over the translation 1a5b4b720b72279a… (all of the seat's roots in one cut). By AI agents, Wed Nov 11 2026. No macro, syntax, notation, axiom, sorry.
-/
import Derived.Test.YtkaglpjdeinbhaaChecked
import GoSem.Claim
import GoSem.ClaimJoined
import GoSem.ClaimMapViews
import Derived.JoinedTies
import Derived.KernelRfl
namespace Go.Proofs.Ytkaglpjdeinbhaa
/- THE CELL 'sum', in the pinned program and in every row, IS THE sha256 OF THE DUMP (.gsa) THAT YtkaglpjdeinbhaaProg.lean LOADS. Nothing in Lean hashes anything: it is a label: what it is worth is what the hold of that sum in a sandbox is worth. -/
noncomputable def Try.pinned : Pinned := { name := "ytkaglpjdeinbhaa", sum := "1a5b4b720b72279a70641a257a8413c2988a33188900eadbd39134195c41f929", checked := Try.checked }
namespace Rows
def none {H : Type} : Left H := { results := [], args := [] }

/-- 'pleachlaw37.RefsSets': WHATEVER THE INPUT: true; the input reads as it did. -/
def refsSetsSpec : ChangeSpec := { name := "refsSets", fn := fun _ => fun
  | [d1, d2, d3, d4, d5] => { results := [.lit (.bool true)], args := [d1, d2, d3, d4, d5] }
  | _ => none }
def refsSetsRow : OpenClaim := { program := "ytkaglpjdeinbhaa", sum := "1a5b4b720b72279a70641a257a8413c2988a33188900eadbd39134195c41f929", func := "pleach/pleachlaw37.RefsSets", spec := "refsSets", inPlace := ["internal/bytealg.abigen_runtime_cmpstring", "slices.overlaps[pleach/api.Ref]"], unfollowed := true, recurses := true, apart := false }
def RefsSetsSaid : Prop := refsSetsRow.holds Try.pinned (OpenSpec.ofChange refsSetsSpec)

/-- ITS FALSE NEIGHBOUR: 'it returns false'. Refute it at one input. -/
def refsSetsWrong : ChangeSpec := { name := "refsSets", fn := fun _ => fun
  | [d1, d2, d3, d4, d5] => { results := [.lit (.bool false)], args := [d1, d2, d3, d4, d5] }
  | _ => none }
def RefsSetsWrongFalsely : Prop := refsSetsRow.holds Try.pinned (OpenSpec.ofChange refsSetsWrong)

/-- 'pleachlaw37.RefsPlays': WHATEVER THE INPUT: true; the input reads as it did. -/
def refsPlaysSpec : ChangeSpec := { name := "refsPlays", fn := fun _ => fun
  | [d1, d2] => { results := [.lit (.bool true)], args := [d1, d2] }
  | _ => none }
def refsPlaysRow : OpenClaim := { program := "ytkaglpjdeinbhaa", sum := "1a5b4b720b72279a70641a257a8413c2988a33188900eadbd39134195c41f929", func := "pleach/pleachlaw37.RefsPlays", spec := "refsPlays", inPlace := ["internal/bytealg.abigen_runtime_cmpstring", "slices.overlaps[pleach/api.Ref]"], unfollowed := true, recurses := true, apart := false }
def RefsPlaysSaid : Prop := refsPlaysRow.holds Try.pinned (OpenSpec.ofChange refsPlaysSpec)

/-- ITS FALSE NEIGHBOUR: 'it returns false'. Refute it at one input. -/
def refsPlaysWrong : ChangeSpec := { name := "refsPlays", fn := fun _ => fun
  | [d1, d2] => { results := [.lit (.bool false)], args := [d1, d2] }
  | _ => none }
def RefsPlaysWrongFalsely : Prop := refsPlaysRow.holds Try.pinned (OpenSpec.ofChange refsPlaysWrong)

/-- 'pleachlaw37.RefsChecks': WHATEVER THE INPUT: true; the input reads as it did. -/
def refsChecksSpec : ChangeSpec := { name := "refsChecks", fn := fun _ => fun
  | [d] => { results := [.lit (.bool true)], args := [d] }
  | _ => none }
def refsChecksRow : OpenClaim := { program := "ytkaglpjdeinbhaa", sum := "1a5b4b720b72279a70641a257a8413c2988a33188900eadbd39134195c41f929", func := "pleach/pleachlaw37.RefsChecks", spec := "refsChecks", inPlace := ["internal/bytealg.abigen_runtime_cmpstring", "slices.overlaps[pleach/api.Ref]"], unfollowed := true, recurses := true, apart := false }
def RefsChecksSaid : Prop := refsChecksRow.holds Try.pinned (OpenSpec.ofChange refsChecksSpec)

/-- ITS FALSE NEIGHBOUR: 'it returns false'. Refute it at one input. -/
def refsChecksWrong : ChangeSpec := { name := "refsChecks", fn := fun _ => fun
  | [d] => { results := [.lit (.bool false)], args := [d] }
  | _ => none }
def RefsChecksWrongFalsely : Prop := refsChecksRow.holds Try.pinned (OpenSpec.ofChange refsChecksWrong)

/-- 'pleachlaw37.RefsRecords': WHATEVER THE INPUT: true; the input reads as it did. -/
def refsRecordsSpec : ChangeSpec := { name := "refsRecords", fn := fun _ => fun
  | [d1, d2, d3, d4] => { results := [.lit (.bool true)], args := [d1, d2, d3, d4] }
  | _ => none }
def refsRecordsRow : OpenClaim := { program := "ytkaglpjdeinbhaa", sum := "1a5b4b720b72279a70641a257a8413c2988a33188900eadbd39134195c41f929", func := "pleach/pleachlaw37.RefsRecords", spec := "refsRecords", inPlace := ["internal/bytealg.abigen_runtime_cmpstring", "slices.overlaps[pleach/api.Ref]"], unfollowed := true, recurses := true, apart := false }
def RefsRecordsSaid : Prop := refsRecordsRow.holds Try.pinned (OpenSpec.ofChange refsRecordsSpec)

/-- ITS FALSE NEIGHBOUR: 'it returns false'. Refute it at one input. -/
def refsRecordsWrong : ChangeSpec := { name := "refsRecords", fn := fun _ => fun
  | [d1, d2, d3, d4] => { results := [.lit (.bool false)], args := [d1, d2, d3, d4] }
  | _ => none }
def RefsRecordsWrongFalsely : Prop := refsRecordsRow.holds Try.pinned (OpenSpec.ofChange refsRecordsWrong)

/- THE SECOND FORM. 'bulk': how many values and letters a reading holds, each counted each time it is reached (what is shared counts as often as it is met; a slice's spare places count too). A statement '..UptoSaid' is the law's where the arguments, and the package variables that the reading takes, are together of bulk at most 1048576: NARROWER than '..Said'. Prove '..Said' where nothing that the law and all that it calls make is longer than what came in: it says more and counts as full. Else prove '..UptoSaid'. A law counts once. -/
mutual
def uptoBulk {H : Type} : DataW H → Nat
  | .lit (.string bytes) => bytes.length + 1
  | .lit _ => 1
  | .nil => 1
  | .ptr d => uptoBulk d + 1
  | .slice elems spare => uptoBulkAll elems + uptoBulkAll spare + 1
  | .agg parts => uptoBulkAll parts + 1
  | .iface _ d => uptoBulk d + 1
  | .map entries => uptoBulkEntries entries + 1
  | .held _ => 1
def uptoBulkAll {H : Type} : List (DataW H) → Nat
  | [] => 0
  | d :: r => uptoBulk d + uptoBulkAll r
def uptoBulkEntries {H : Type} : List (Lit × DataW H) → Nat
  | [] => 0
  | x :: r => uptoBulkEntry x + uptoBulkEntries r
def uptoBulkEntry {H : Type} : Lit × DataW H → Nat
  | (.string bytes, d) => bytes.length + uptoBulk d + 1
  | (_, d) => uptoBulk d + 1
 end
def uptoSmall : (H : Type) → List (DataW H) → Bool := fun _ ds => decide (uptoBulkAll ds ≤ 1048576)
def OpenSpec.upto (s : _root_.Go.ChangeSpec) : _root_.Go.OpenSpec := { _root_.Go.OpenSpec.ofChange s with cond := some uptoSmall }

/-- 'pleachlaw37.RefsSets', WHERE WHAT IT READS IS OF BULK AT MOST 1048576: true; the input reads as it did. -/
def refsSetsUptoRow : OpenClaim := { program := "ytkaglpjdeinbhaa", sum := "1a5b4b720b72279a70641a257a8413c2988a33188900eadbd39134195c41f929", func := "pleach/pleachlaw37.RefsSets", spec := "refsSets", inPlace := ["internal/bytealg.abigen_runtime_cmpstring", "slices.overlaps[pleach/api.Ref]"], unfollowed := true, recurses := true, apart := false, narrowed := true }
def RefsSetsUptoSaid : Prop := refsSetsUptoRow.holds Try.pinned (OpenSpec.upto refsSetsSpec)

/-- 'pleachlaw37.RefsPlays', WHERE WHAT IT READS IS OF BULK AT MOST 1048576: true; the input reads as it did. -/
def refsPlaysUptoRow : OpenClaim := { program := "ytkaglpjdeinbhaa", sum := "1a5b4b720b72279a70641a257a8413c2988a33188900eadbd39134195c41f929", func := "pleach/pleachlaw37.RefsPlays", spec := "refsPlays", inPlace := ["internal/bytealg.abigen_runtime_cmpstring", "slices.overlaps[pleach/api.Ref]"], unfollowed := true, recurses := true, apart := false, narrowed := true }
def RefsPlaysUptoSaid : Prop := refsPlaysUptoRow.holds Try.pinned (OpenSpec.upto refsPlaysSpec)

/-- 'pleachlaw37.RefsChecks', WHERE WHAT IT READS IS OF BULK AT MOST 1048576: true; the input reads as it did. -/
def refsChecksUptoRow : OpenClaim := { program := "ytkaglpjdeinbhaa", sum := "1a5b4b720b72279a70641a257a8413c2988a33188900eadbd39134195c41f929", func := "pleach/pleachlaw37.RefsChecks", spec := "refsChecks", inPlace := ["internal/bytealg.abigen_runtime_cmpstring", "slices.overlaps[pleach/api.Ref]"], unfollowed := true, recurses := true, apart := false, narrowed := true }
def RefsChecksUptoSaid : Prop := refsChecksUptoRow.holds Try.pinned (OpenSpec.upto refsChecksSpec)

/-- 'pleachlaw37.RefsRecords', WHERE WHAT IT READS IS OF BULK AT MOST 1048576: true; the input reads as it did. -/
def refsRecordsUptoRow : OpenClaim := { program := "ytkaglpjdeinbhaa", sum := "1a5b4b720b72279a70641a257a8413c2988a33188900eadbd39134195c41f929", func := "pleach/pleachlaw37.RefsRecords", spec := "refsRecords", inPlace := ["internal/bytealg.abigen_runtime_cmpstring", "slices.overlaps[pleach/api.Ref]"], unfollowed := true, recurses := true, apart := false, narrowed := true }
def RefsRecordsUptoSaid : Prop := refsRecordsUptoRow.holds Try.pinned (OpenSpec.upto refsRecordsSpec)

end Rows
end Go.Proofs.Ytkaglpjdeinbhaa
