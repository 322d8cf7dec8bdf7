/-
  DERIVED. GIVEN WITH THE SEED: THE CARDS: each row of YtopllfdjlbnmfaaDoorRows.lean that lists a variable, with what it lists TIED to the program's text (the seventh form; the later family's looks); each row that meets fmt, with fmt's text TOLD by the authors' own Lean function (tested against real Go, not proved from fmt's source: count such statements apart). THE CARD IS WHAT COUNTS. Prove the row's statement (the work); the ties are given (YtopllfdjlbnmfaaDoorTie.lean); close each card by the builder's one call (the guide's Derived/Test/ToyasCard.lean, 'card_holds'). Laid BY PROGRAM, IN A SANDBOX (cutbox-door.mjs). By AI agents, Wed Nov 11 2026. No macro, syntax, notation, axiom, sorry.
-/
import Derived.Test.YtopllfdjlbnmfaaDoorRows
import GoSem.ClaimSeven
namespace Go.Proofs.YtopllfdjlbnmfaaDoor
namespace Rows

/-- THE TIED CARD OF 'pleachlaw20.TreeChildren'. -/
def treeChildrenCard : Claim7 := { stood := { row := treeChildrenRow, standIns := [], harness := (true, "383bdef08eb1d0be54ab61628461a64b75c34042db3042b39b39a4670a85002d"), looks := false }, kinds := [], alts := [], laidByText := true, laidKinds := [.data, .data], laidTests := true, laidLooks := .later }
def TreeChildrenCardSaid : Prop := Claim7.holds Tryd.pinned (.plain (OpenSpec.ofChange treeChildrenSpec)) treeChildrenCard

/-- THE TIED CARD OF 'pleachlaw20.TreeEach'. -/
def treeEachCard : Claim7 := { stood := { row := treeEachRow, standIns := [], harness := (true, "383bdef08eb1d0be54ab61628461a64b75c34042db3042b39b39a4670a85002d"), looks := false }, kinds := [], alts := [], laidByText := true, laidKinds := [.data, .data], laidTests := true, laidLooks := .later }
def TreeEachCardSaid : Prop := Claim7.holds Tryd.pinned (.plain (OpenSpec.ofChange treeEachSpec)) treeEachCard

/-- THE TIED CARD OF 'pleachlaw20.TreeBack'. -/
def treeBackCard : Claim7 := { stood := { row := treeBackRow, standIns := [], harness := (true, "383bdef08eb1d0be54ab61628461a64b75c34042db3042b39b39a4670a85002d"), looks := false }, kinds := [], alts := [], laidByText := true, laidKinds := [.data, .data], laidTests := true, laidLooks := .later }
def TreeBackCardSaid : Prop := Claim7.holds Tryd.pinned (.plain (OpenSpec.ofChange treeBackSpec)) treeBackCard

/-- THE SECOND FORM's CARD OF 'pleachlaw20.TreeChildren'. -/
def treeChildrenUptoCard : Claim7 := { stood := { row := treeChildrenUptoRow, standIns := [], harness := (true, "383bdef08eb1d0be54ab61628461a64b75c34042db3042b39b39a4670a85002d"), looks := false }, kinds := [], alts := [], laidByText := true, laidKinds := [.data, .data], laidTests := true, laidLooks := .later }
def TreeChildrenUptoCardSaid : Prop := Claim7.holds Tryd.pinned (.plain (OpenSpec.upto treeChildrenSpec)) treeChildrenUptoCard

/-- THE SECOND FORM's CARD OF 'pleachlaw20.TreeEach'. -/
def treeEachUptoCard : Claim7 := { stood := { row := treeEachUptoRow, standIns := [], harness := (true, "383bdef08eb1d0be54ab61628461a64b75c34042db3042b39b39a4670a85002d"), looks := false }, kinds := [], alts := [], laidByText := true, laidKinds := [.data, .data], laidTests := true, laidLooks := .later }
def TreeEachUptoCardSaid : Prop := Claim7.holds Tryd.pinned (.plain (OpenSpec.upto treeEachSpec)) treeEachUptoCard

/-- THE SECOND FORM's CARD OF 'pleachlaw20.TreeBack'. -/
def treeBackUptoCard : Claim7 := { stood := { row := treeBackUptoRow, standIns := [], harness := (true, "383bdef08eb1d0be54ab61628461a64b75c34042db3042b39b39a4670a85002d"), looks := false }, kinds := [], alts := [], laidByText := true, laidKinds := [.data, .data], laidTests := true, laidLooks := .later }
def TreeBackUptoCardSaid : Prop := Claim7.holds Tryd.pinned (.plain (OpenSpec.upto treeBackSpec)) treeBackUptoCard
end Rows
end Go.Proofs.YtopllfdjlbnmfaaDoor
