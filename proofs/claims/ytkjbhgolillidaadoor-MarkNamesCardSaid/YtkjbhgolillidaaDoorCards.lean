/-
  DERIVED. GIVEN WITH THE SEED: THE CARDS: each row of YtkjbhgolillidaaDoorRows.lean that lists a variable, with what it lists TIED to the program's text (the seventh form; the later family's looks); each row that meets fmt, with fmt's text TOLD by the authors' own Lean function (tested against real Go, not proved from fmt's source: count such statements apart). THE CARD IS WHAT COUNTS. Prove the row's statement (the work); the ties are given (YtkjbhgolillidaaDoorTie.lean); close each card by the builder's one call (the guide's Derived/Test/ToyasCard.lean, 'card_holds'). Laid BY PROGRAM, IN A SANDBOX (cutbox-door.mjs). By AI agents, Wed Nov 11 2026. No macro, syntax, notation, axiom, sorry.
-/
import Derived.Test.YtkjbhgolillidaaDoorRows
import GoSem.ClaimSeven
namespace Go.Proofs.YtkjbhgolillidaaDoor
namespace Rows

/-- THE TIED CARD OF 'pleachlaw39.MarkNames'. -/
def markNamesCard : Claim7 := { stood := { row := markNamesRow, standIns := [], harness := (true, "1fe615697f0089e3d98e967578f134b5af0f93ba7db6a3ade51f3db85dc81304"), looks := false }, kinds := [], alts := [], laidByText := true, laidKinds := [.data, .data], laidTests := true, laidLooks := .later }
def MarkNamesCardSaid : Prop := Claim7.holds Tryd.pinned (.plain (OpenSpec.ofChange markNamesSpec)) markNamesCard

/-- THE SECOND FORM's CARD OF 'pleachlaw39.MarkNames'. -/
def markNamesUptoCard : Claim7 := { stood := { row := markNamesUptoRow, standIns := [], harness := (true, "1fe615697f0089e3d98e967578f134b5af0f93ba7db6a3ade51f3db85dc81304"), looks := false }, kinds := [], alts := [], laidByText := true, laidKinds := [.data, .data], laidTests := true, laidLooks := .later }
def MarkNamesUptoCardSaid : Prop := Claim7.holds Tryd.pinned (.plain (OpenSpec.upto markNamesSpec)) markNamesUptoCard
end Rows
end Go.Proofs.YtkjbhgolillidaaDoor
