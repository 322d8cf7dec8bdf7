/-
  DERIVED. GIVEN WITH THE SEED: THE CARDS: each row of YtccekjebfafgcaaDoorRows.lean that lists a variable, with what it lists TIED to the program's text (the seventh form; the later family's looks); each row that meets fmt, with fmt's text TOLD by the authors' own Lean function (tested against real Go, not proved from fmt's source: count such statements apart). THE CARD IS WHAT COUNTS. Prove the row's statement (the work); the ties are given (YtccekjebfafgcaaDoorTie.lean); close each card by the builder's one call (the guide's Derived/Test/ToyasCard.lean, 'card_holds'). Laid BY PROGRAM, IN A SANDBOX (cutbox-door.mjs). By AI agents, Wed Nov 11 2026. No macro, syntax, notation, axiom, sorry.
-/
import Derived.Test.YtccekjebfafgcaaDoorRows
import GoSem.ClaimSeven
namespace Go.Proofs.YtccekjebfafgcaaDoor
namespace Rows

/-- THE TIED CARD OF 'pleachlaw16.ShelfGot'. -/
def shelfGotCard : Claim7 := { stood := { row := shelfGotRow, standIns := [], harness := (true, "300fdd0d1c73929203a8b3dbb175bd80f8796b2bc3826017683c8c12b8d8e6a4"), looks := false }, kinds := [], alts := [], laidByText := true, laidKinds := [.data, .data], laidTests := true, laidLooks := .later }
def ShelfGotCardSaid : Prop := Claim7.holds Tryd.pinned (.plain (OpenSpec.ofChange shelfGotSpec)) shelfGotCard

/-- THE TIED CARD OF 'pleachlaw16.ShelfApart'. -/
def shelfApartCard : Claim7 := { stood := { row := shelfApartRow, standIns := [], harness := (true, "300fdd0d1c73929203a8b3dbb175bd80f8796b2bc3826017683c8c12b8d8e6a4"), looks := false }, kinds := [], alts := [], laidByText := true, laidKinds := [.data, .data], laidTests := true, laidLooks := .later }
def ShelfApartCardSaid : Prop := Claim7.holds Tryd.pinned (.plain (OpenSpec.ofChange shelfApartSpec)) shelfApartCard

/-- THE TIED CARD OF 'pleachlaw16.ShelfPlays'. -/
def shelfPlaysCard : Claim7 := { stood := { row := shelfPlaysRow, standIns := [], harness := (true, "300fdd0d1c73929203a8b3dbb175bd80f8796b2bc3826017683c8c12b8d8e6a4"), looks := false }, kinds := [], alts := [], laidByText := true, laidKinds := [.data, .data], laidTests := true, laidLooks := .later }
def ShelfPlaysCardSaid : Prop := Claim7.holds Tryd.pinned (.plain (OpenSpec.ofChange shelfPlaysSpec)) shelfPlaysCard

/-- THE TIED CARD OF 'pleachlaw16.ShelfNobody'. -/
def shelfNobodyCard : Claim7 := { stood := { row := shelfNobodyRow, standIns := [], harness := (true, "300fdd0d1c73929203a8b3dbb175bd80f8796b2bc3826017683c8c12b8d8e6a4"), looks := false }, kinds := [], alts := [], laidByText := true, laidKinds := [.data, .data], laidTests := true, laidLooks := .later }
def ShelfNobodyCardSaid : Prop := Claim7.holds Tryd.pinned (.plain (OpenSpec.ofChange shelfNobodySpec)) shelfNobodyCard

/-- THE SECOND FORM's CARD OF 'pleachlaw16.ShelfGot'. -/
def shelfGotUptoCard : Claim7 := { stood := { row := shelfGotUptoRow, standIns := [], harness := (true, "300fdd0d1c73929203a8b3dbb175bd80f8796b2bc3826017683c8c12b8d8e6a4"), looks := false }, kinds := [], alts := [], laidByText := true, laidKinds := [.data, .data], laidTests := true, laidLooks := .later }
def ShelfGotUptoCardSaid : Prop := Claim7.holds Tryd.pinned (.plain (OpenSpec.upto shelfGotSpec)) shelfGotUptoCard

/-- THE SECOND FORM's CARD OF 'pleachlaw16.ShelfApart'. -/
def shelfApartUptoCard : Claim7 := { stood := { row := shelfApartUptoRow, standIns := [], harness := (true, "300fdd0d1c73929203a8b3dbb175bd80f8796b2bc3826017683c8c12b8d8e6a4"), looks := false }, kinds := [], alts := [], laidByText := true, laidKinds := [.data, .data], laidTests := true, laidLooks := .later }
def ShelfApartUptoCardSaid : Prop := Claim7.holds Tryd.pinned (.plain (OpenSpec.upto shelfApartSpec)) shelfApartUptoCard

/-- THE SECOND FORM's CARD OF 'pleachlaw16.ShelfPlays'. -/
def shelfPlaysUptoCard : Claim7 := { stood := { row := shelfPlaysUptoRow, standIns := [], harness := (true, "300fdd0d1c73929203a8b3dbb175bd80f8796b2bc3826017683c8c12b8d8e6a4"), looks := false }, kinds := [], alts := [], laidByText := true, laidKinds := [.data, .data], laidTests := true, laidLooks := .later }
def ShelfPlaysUptoCardSaid : Prop := Claim7.holds Tryd.pinned (.plain (OpenSpec.upto shelfPlaysSpec)) shelfPlaysUptoCard

/-- THE SECOND FORM's CARD OF 'pleachlaw16.ShelfNobody'. -/
def shelfNobodyUptoCard : Claim7 := { stood := { row := shelfNobodyUptoRow, standIns := [], harness := (true, "300fdd0d1c73929203a8b3dbb175bd80f8796b2bc3826017683c8c12b8d8e6a4"), looks := false }, kinds := [], alts := [], laidByText := true, laidKinds := [.data, .data], laidTests := true, laidLooks := .later }
def ShelfNobodyUptoCardSaid : Prop := Claim7.holds Tryd.pinned (.plain (OpenSpec.upto shelfNobodySpec)) shelfNobodyUptoCard
end Rows
end Go.Proofs.YtccekjebfafgcaaDoor
