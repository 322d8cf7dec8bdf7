/-
  DERIVED. GIVEN WITH THE SEED: THE CARDS: each row of YtikdbklmhjlfoaaDoorRows.lean that lists a variable, with what it lists TIED to the program's text (the seventh form; the later family's looks); each row that meets fmt, with fmt's text TOLD by the authors' own Lean function (tested against real Go, not proved from fmt's source: count such statements apart). THE CARD IS WHAT COUNTS. Prove the row's statement (the work); the ties are given (YtikdbklmhjlfoaaDoorTie.lean); close each card by the builder's one call (the guide's Derived/Test/ToyasCard.lean, 'card_holds'). Laid BY PROGRAM, IN A SANDBOX (cutbox-door.mjs). By AI agents, Wed Nov 11 2026. No macro, syntax, notation, axiom, sorry.
-/
import Derived.Test.YtikdbklmhjlfoaaDoorRows
import GoSem.ClaimSeven
namespace Go.Proofs.YtikdbklmhjlfoaaDoor
namespace Rows

/-- THE TIED CARD OF 'pleachlaw35.CommitTakes'. -/
def commitTakesCard : Claim7 := { stood := { row := commitTakesRow, standIns := [], harness := (true, "03aaf8c9be8e3f365ded211e5c81515a1d6abb5e0a4f8fb6a2f449acb5df7b04"), looks := false }, kinds := [], alts := [], laidByText := true, laidKinds := [.data, .data], laidTests := true, laidLooks := .later }
def CommitTakesCardSaid : Prop := Claim7.holds Tryd.pinned (.plain (OpenSpec.ofChange commitTakesSpec)) commitTakesCard

/-- THE TIED CARD OF 'pleachlaw35.CommitPuts'. -/
def commitPutsCard : Claim7 := { stood := { row := commitPutsRow, standIns := [], harness := (true, "03aaf8c9be8e3f365ded211e5c81515a1d6abb5e0a4f8fb6a2f449acb5df7b04"), looks := false }, kinds := [], alts := [], laidByText := true, laidKinds := [.data, .data], laidTests := true, laidLooks := .later }
def CommitPutsCardSaid : Prop := Claim7.holds Tryd.pinned (.plain (OpenSpec.ofChange commitPutsSpec)) commitPutsCard

/-- THE TIED CARD OF 'pleachlaw35.CommitBack'. -/
def commitBackCard : Claim7 := { stood := { row := commitBackRow, standIns := [], harness := (true, "03aaf8c9be8e3f365ded211e5c81515a1d6abb5e0a4f8fb6a2f449acb5df7b04"), looks := false }, kinds := [], alts := [], laidByText := true, laidKinds := [.data, .data], laidTests := true, laidLooks := .later }
def CommitBackCardSaid : Prop := Claim7.holds Tryd.pinned (.plain (OpenSpec.ofChange commitBackSpec)) commitBackCard

/-- THE TIED CARD OF 'pleachlaw35.CommitKnots'. -/
def commitKnotsCard : Claim7 := { stood := { row := commitKnotsRow, standIns := [], harness := (true, "03aaf8c9be8e3f365ded211e5c81515a1d6abb5e0a4f8fb6a2f449acb5df7b04"), looks := false }, kinds := [], alts := [], laidByText := true, laidKinds := [.data, .data], laidTests := true, laidLooks := .later }
def CommitKnotsCardSaid : Prop := Claim7.holds Tryd.pinned (.plain (OpenSpec.ofChange commitKnotsSpec)) commitKnotsCard

/-- THE SECOND FORM's CARD OF 'pleachlaw35.CommitTakes'. -/
def commitTakesUptoCard : Claim7 := { stood := { row := commitTakesUptoRow, standIns := [], harness := (true, "03aaf8c9be8e3f365ded211e5c81515a1d6abb5e0a4f8fb6a2f449acb5df7b04"), looks := false }, kinds := [], alts := [], laidByText := true, laidKinds := [.data, .data], laidTests := true, laidLooks := .later }
def CommitTakesUptoCardSaid : Prop := Claim7.holds Tryd.pinned (.plain (OpenSpec.upto commitTakesSpec)) commitTakesUptoCard

/-- THE SECOND FORM's CARD OF 'pleachlaw35.CommitPuts'. -/
def commitPutsUptoCard : Claim7 := { stood := { row := commitPutsUptoRow, standIns := [], harness := (true, "03aaf8c9be8e3f365ded211e5c81515a1d6abb5e0a4f8fb6a2f449acb5df7b04"), looks := false }, kinds := [], alts := [], laidByText := true, laidKinds := [.data, .data], laidTests := true, laidLooks := .later }
def CommitPutsUptoCardSaid : Prop := Claim7.holds Tryd.pinned (.plain (OpenSpec.upto commitPutsSpec)) commitPutsUptoCard

/-- THE SECOND FORM's CARD OF 'pleachlaw35.CommitBack'. -/
def commitBackUptoCard : Claim7 := { stood := { row := commitBackUptoRow, standIns := [], harness := (true, "03aaf8c9be8e3f365ded211e5c81515a1d6abb5e0a4f8fb6a2f449acb5df7b04"), looks := false }, kinds := [], alts := [], laidByText := true, laidKinds := [.data, .data], laidTests := true, laidLooks := .later }
def CommitBackUptoCardSaid : Prop := Claim7.holds Tryd.pinned (.plain (OpenSpec.upto commitBackSpec)) commitBackUptoCard

/-- THE SECOND FORM's CARD OF 'pleachlaw35.CommitKnots'. -/
def commitKnotsUptoCard : Claim7 := { stood := { row := commitKnotsUptoRow, standIns := [], harness := (true, "03aaf8c9be8e3f365ded211e5c81515a1d6abb5e0a4f8fb6a2f449acb5df7b04"), looks := false }, kinds := [], alts := [], laidByText := true, laidKinds := [.data, .data], laidTests := true, laidLooks := .later }
def CommitKnotsUptoCardSaid : Prop := Claim7.holds Tryd.pinned (.plain (OpenSpec.upto commitKnotsSpec)) commitKnotsUptoCard
end Rows
end Go.Proofs.YtikdbklmhjlfoaaDoor
