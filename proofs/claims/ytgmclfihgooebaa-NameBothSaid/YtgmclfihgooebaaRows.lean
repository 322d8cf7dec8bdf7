/-
  No cell of these rows narrows 'for every input' (looked for: loops, veiled, ifaces, maps, wideKeys, modest, calm, conditions, laid).
  DERIVED. THE GIVEN ROWS OF THIS SEAT. 4 by the template 'for every input the law returns true; each argument reads behind the call as it read before'; 0 by the template 'total and deterministic' (their statements: YtgmclfihgooebaaTotals.lean).
  GIVEN WITH THE SEED: the statements are not yours to turn. If you find one false, say at which input.
  Laid BY PROGRAM, IN A SANDBOX (cutbox-rows.mjs): the forced cells as the released guide's own fill.sh prints them over the translation ee5b21b919cb2b8d… (all of the seat's roots in one cut). By AI agents, Wed Nov 11 2026. No macro, syntax, notation, axiom, sorry.
-/
import Derived.Test.YtgmclfihgooebaaChecked
import GoSem.Claim
import GoSem.ClaimJoined
import GoSem.ClaimMapViews
import Derived.JoinedTies
import Derived.KernelRfl
namespace Go.Proofs.Ytgmclfihgooebaa
/- THE CELL 'sum', in the pinned program and in every row, IS THE sha256 OF THE DUMP (.gsa) THAT YtgmclfihgooebaaProg.lean LOADS. Nothing in Lean hashes anything: it is a label: what it is worth is what the hold of that sum in a sandbox is worth. -/
noncomputable def Try.pinned : Pinned := { name := "ytgmclfihgooebaa", sum := "ee5b21b919cb2b8d065cfc4f087a47c708e60e080d8d1d0a41d4dce69f028e80", checked := Try.checked }
namespace Rows
def none {H : Type} : Left H := { results := [], args := [] }

/-- 'pleachlaw05.NameChecks': WHATEVER THE INPUT: true; the input reads as it did. -/
def nameChecksSpec : ChangeSpec := { name := "nameChecks", fn := fun _ => fun
  | [d1, d2] => { results := [.lit (.bool true)], args := [d1, d2] }
  | _ => none }
def nameChecksRow : OpenClaim := { program := "ytgmclfihgooebaa", sum := "ee5b21b919cb2b8d065cfc4f087a47c708e60e080d8d1d0a41d4dce69f028e80", func := "pleach/pleachlaw05.NameChecks", spec := "nameChecks", inPlace := ["slices.overlaps[string]"], apart := false }
def NameChecksSaid : Prop := nameChecksRow.holds Try.pinned (OpenSpec.ofChange nameChecksSpec)

/-- ITS FALSE NEIGHBOUR: 'it returns false'. Refute it at one input. -/
def nameChecksWrong : ChangeSpec := { name := "nameChecks", fn := fun _ => fun
  | [d1, d2] => { results := [.lit (.bool false)], args := [d1, d2] }
  | _ => none }
def NameChecksWrongFalsely : Prop := nameChecksRow.holds Try.pinned (OpenSpec.ofChange nameChecksWrong)

/-- 'pleachlaw05.NameFinds': WHATEVER THE INPUT: true; the input reads as it did. -/
def nameFindsSpec : ChangeSpec := { name := "nameFinds", fn := fun _ => fun
  | [d1, d2] => { results := [.lit (.bool true)], args := [d1, d2] }
  | _ => none }
def nameFindsRow : OpenClaim := { program := "ytgmclfihgooebaa", sum := "ee5b21b919cb2b8d065cfc4f087a47c708e60e080d8d1d0a41d4dce69f028e80", func := "pleach/pleachlaw05.NameFinds", spec := "nameFinds", inPlace := ["slices.overlaps[string]"], apart := false }
def NameFindsSaid : Prop := nameFindsRow.holds Try.pinned (OpenSpec.ofChange nameFindsSpec)

/-- ITS FALSE NEIGHBOUR: 'it returns false'. Refute it at one input. -/
def nameFindsWrong : ChangeSpec := { name := "nameFinds", fn := fun _ => fun
  | [d1, d2] => { results := [.lit (.bool false)], args := [d1, d2] }
  | _ => none }
def NameFindsWrongFalsely : Prop := nameFindsRow.holds Try.pinned (OpenSpec.ofChange nameFindsWrong)

/-- 'pleachlaw05.NameBack': WHATEVER THE INPUT: true; the input reads as it did. -/
def nameBackSpec : ChangeSpec := { name := "nameBack", fn := fun _ => fun
  | [d1, d2] => { results := [.lit (.bool true)], args := [d1, d2] }
  | _ => none }
def nameBackRow : OpenClaim := { program := "ytgmclfihgooebaa", sum := "ee5b21b919cb2b8d065cfc4f087a47c708e60e080d8d1d0a41d4dce69f028e80", func := "pleach/pleachlaw05.NameBack", spec := "nameBack", inPlace := ["slices.overlaps[string]"], apart := false }
def NameBackSaid : Prop := nameBackRow.holds Try.pinned (OpenSpec.ofChange nameBackSpec)

/-- ITS FALSE NEIGHBOUR: 'it returns false'. Refute it at one input. -/
def nameBackWrong : ChangeSpec := { name := "nameBack", fn := fun _ => fun
  | [d1, d2] => { results := [.lit (.bool false)], args := [d1, d2] }
  | _ => none }
def NameBackWrongFalsely : Prop := nameBackRow.holds Try.pinned (OpenSpec.ofChange nameBackWrong)

/-- 'pleachlaw05.NameBoth': WHATEVER THE INPUT: true; the input reads as it did. -/
def nameBothSpec : ChangeSpec := { name := "nameBoth", fn := fun _ => fun
  | [d1, d2] => { results := [.lit (.bool true)], args := [d1, d2] }
  | _ => none }
def nameBothRow : OpenClaim := { program := "ytgmclfihgooebaa", sum := "ee5b21b919cb2b8d065cfc4f087a47c708e60e080d8d1d0a41d4dce69f028e80", func := "pleach/pleachlaw05.NameBoth", spec := "nameBoth", inPlace := ["slices.overlaps[string]"], recurses := true, apart := false }
def NameBothSaid : Prop := nameBothRow.holds Try.pinned (OpenSpec.ofChange nameBothSpec)

/-- ITS FALSE NEIGHBOUR: 'it returns false'. Refute it at one input. -/
def nameBothWrong : ChangeSpec := { name := "nameBoth", fn := fun _ => fun
  | [d1, d2] => { results := [.lit (.bool false)], args := [d1, d2] }
  | _ => none }
def NameBothWrongFalsely : Prop := nameBothRow.holds Try.pinned (OpenSpec.ofChange nameBothWrong)

/- THE SECOND FORM. 'bulk': how many values and letters a reading holds, each counted each time it is reached (what is shared counts as often as it is met; a slice's spare places count too). A statement '..UptoSaid' is the law's where the arguments, and the package variables that the reading takes, are together of bulk at most 1048576: NARROWER than '..Said'. Prove '..Said' where nothing that the law and all that it calls make is longer than what came in: it says more and counts as full. Else prove '..UptoSaid'. A law counts once. -/
mutual
def uptoBulk {H : Type} : DataW H → Nat
  | .lit (.string bytes) => bytes.length + 1
  | .lit _ => 1
  | .nil => 1
  | .ptr d => uptoBulk d + 1
  | .slice elems spare => uptoBulkAll elems + uptoBulkAll spare + 1
  | .agg parts => uptoBulkAll parts + 1
  | .iface _ d => uptoBulk d + 1
  | .map entries => uptoBulkEntries entries + 1
  | .held _ => 1
def uptoBulkAll {H : Type} : List (DataW H) → Nat
  | [] => 0
  | d :: r => uptoBulk d + uptoBulkAll r
def uptoBulkEntries {H : Type} : List (Lit × DataW H) → Nat
  | [] => 0
  | x :: r => uptoBulkEntry x + uptoBulkEntries r
def uptoBulkEntry {H : Type} : Lit × DataW H → Nat
  | (.string bytes, d) => bytes.length + uptoBulk d + 1
  | (_, d) => uptoBulk d + 1
 end
def uptoSmall : (H : Type) → List (DataW H) → Bool := fun _ ds => decide (uptoBulkAll ds ≤ 1048576)
def OpenSpec.upto (s : _root_.Go.ChangeSpec) : _root_.Go.OpenSpec := { _root_.Go.OpenSpec.ofChange s with cond := some uptoSmall }

/-- 'pleachlaw05.NameChecks', WHERE WHAT IT READS IS OF BULK AT MOST 1048576: true; the input reads as it did. -/
def nameChecksUptoRow : OpenClaim := { program := "ytgmclfihgooebaa", sum := "ee5b21b919cb2b8d065cfc4f087a47c708e60e080d8d1d0a41d4dce69f028e80", func := "pleach/pleachlaw05.NameChecks", spec := "nameChecks", inPlace := ["slices.overlaps[string]"], apart := false, narrowed := true }
def NameChecksUptoSaid : Prop := nameChecksUptoRow.holds Try.pinned (OpenSpec.upto nameChecksSpec)

/-- 'pleachlaw05.NameFinds', WHERE WHAT IT READS IS OF BULK AT MOST 1048576: true; the input reads as it did. -/
def nameFindsUptoRow : OpenClaim := { program := "ytgmclfihgooebaa", sum := "ee5b21b919cb2b8d065cfc4f087a47c708e60e080d8d1d0a41d4dce69f028e80", func := "pleach/pleachlaw05.NameFinds", spec := "nameFinds", inPlace := ["slices.overlaps[string]"], apart := false, narrowed := true }
def NameFindsUptoSaid : Prop := nameFindsUptoRow.holds Try.pinned (OpenSpec.upto nameFindsSpec)

/-- 'pleachlaw05.NameBack', WHERE WHAT IT READS IS OF BULK AT MOST 1048576: true; the input reads as it did. -/
def nameBackUptoRow : OpenClaim := { program := "ytgmclfihgooebaa", sum := "ee5b21b919cb2b8d065cfc4f087a47c708e60e080d8d1d0a41d4dce69f028e80", func := "pleach/pleachlaw05.NameBack", spec := "nameBack", inPlace := ["slices.overlaps[string]"], apart := false, narrowed := true }
def NameBackUptoSaid : Prop := nameBackUptoRow.holds Try.pinned (OpenSpec.upto nameBackSpec)

/-- 'pleachlaw05.NameBoth', WHERE WHAT IT READS IS OF BULK AT MOST 1048576: true; the input reads as it did. -/
def nameBothUptoRow : OpenClaim := { program := "ytgmclfihgooebaa", sum := "ee5b21b919cb2b8d065cfc4f087a47c708e60e080d8d1d0a41d4dce69f028e80", func := "pleach/pleachlaw05.NameBoth", spec := "nameBoth", inPlace := ["slices.overlaps[string]"], recurses := true, apart := false, narrowed := true }
def NameBothUptoSaid : Prop := nameBothUptoRow.holds Try.pinned (OpenSpec.upto nameBothSpec)

end Rows
end Go.Proofs.Ytgmclfihgooebaa
