/-
  DERIVED. GIVEN WITH THE SEED: THE CARDS: each row of YtimnjdgelencpaaDoorRows.lean that lists a variable, with what it lists TIED to the program's text (the seventh form; the later family's looks); each row that meets fmt, with fmt's text TOLD by the authors' own Lean function (tested against real Go, not proved from fmt's source: count such statements apart). THE CARD IS WHAT COUNTS. Prove the row's statement (the work); the ties are given (YtimnjdgelencpaaDoorTie.lean); close each card by the builder's one call (the guide's Derived/Test/ToyasCard.lean, 'card_holds'). Laid BY PROGRAM, IN A SANDBOX (cutbox-door.mjs). By AI agents, Wed Nov 11 2026. No macro, syntax, notation, axiom, sorry.
-/
import Derived.Test.YtimnjdgelencpaaDoorRows
import GoSem.ClaimSeven
namespace Go.Proofs.YtimnjdgelencpaaDoor
namespace Rows

/-- THE TIED CARD OF 'withylaw03.ColOrder'. -/
def colOrderCard : Claim7 := { stood := { row := colOrderRow, standIns := [], harness := (true, "9fe301215be9d564e228206c25b8219c7cc34a6a27aedd16dea22678124f8467"), looks := true }, kinds := [], alts := [], laidByText := true, laidKinds := [.data, .pinned], laidTests := true, laidLooks := .later }
def ColOrderCardSaid : Prop := Claim7.holds Tryd.pinned (.plain (OpenSpec.ofChange colOrderSpec)) colOrderCard

/-- THE TIED CARD OF 'withylaw03.ColBack'. -/
def colBackCard : Claim7 := { stood := { row := colBackRow, standIns := [], harness := (true, "9fe301215be9d564e228206c25b8219c7cc34a6a27aedd16dea22678124f8467"), looks := true }, kinds := [], alts := [], laidByText := true, laidKinds := [.data, .pinned], laidTests := true, laidLooks := .later }
def ColBackCardSaid : Prop := Claim7.holds Tryd.pinned (.plain (OpenSpec.ofChange colBackSpec)) colBackCard

/-- THE TIED CARD OF 'withylaw03.ColOnce'. -/
def colOnceCard : Claim7 := { stood := { row := colOnceRow, standIns := [], harness := (true, "9fe301215be9d564e228206c25b8219c7cc34a6a27aedd16dea22678124f8467"), looks := true }, kinds := [], alts := [], laidByText := true, laidKinds := [.data, .pinned], laidTests := true, laidLooks := .later }
def ColOnceCardSaid : Prop := Claim7.holds Tryd.pinned (.plain (OpenSpec.ofChange colOnceSpec)) colOnceCard

/-- THE TIED CARD OF 'withylaw03.ColSizes'. -/
def colSizesCard : Claim7 := { stood := { row := colSizesRow, standIns := [], harness := (true, "9fe301215be9d564e228206c25b8219c7cc34a6a27aedd16dea22678124f8467"), looks := true }, kinds := [], alts := [], laidByText := true, laidKinds := [.data, .pinned], laidTests := true, laidLooks := .later }
def ColSizesCardSaid : Prop := Claim7.holds Tryd.pinned (.plain (OpenSpec.ofChange colSizesSpec)) colSizesCard

/-- THE TIED CARD OF 'withylaw04.KeyTells'. -/
def keyTellsCard : Claim7 := { stood := { row := keyTellsRow, standIns := [], harness := (true, "9fe301215be9d564e228206c25b8219c7cc34a6a27aedd16dea22678124f8467"), looks := true }, kinds := [], alts := [], laidByText := true, laidKinds := [.data, .pinned], laidTests := true, laidLooks := .later }
def KeyTellsCardSaid : Prop := Claim7.holds Tryd.pinned (.plain (OpenSpec.ofChange keyTellsSpec)) keyTellsCard

/-- THE TIED CARD OF 'withylaw04.KeyOrder'. -/
def keyOrderCard : Claim7 := { stood := { row := keyOrderRow, standIns := [], harness := (true, "9fe301215be9d564e228206c25b8219c7cc34a6a27aedd16dea22678124f8467"), looks := true }, kinds := [], alts := [], laidByText := true, laidKinds := [.data, .pinned], laidTests := true, laidLooks := .later }
def KeyOrderCardSaid : Prop := Claim7.holds Tryd.pinned (.plain (OpenSpec.ofChange keyOrderSpec)) keyOrderCard

/-- THE TIED CARD OF 'withylaw04.KeyBack'. -/
def keyBackCard : Claim7 := { stood := { row := keyBackRow, standIns := [], harness := (true, "9fe301215be9d564e228206c25b8219c7cc34a6a27aedd16dea22678124f8467"), looks := true }, kinds := [], alts := [], laidByText := true, laidKinds := [.data, .pinned], laidTests := true, laidLooks := .later }
def KeyBackCardSaid : Prop := Claim7.holds Tryd.pinned (.plain (OpenSpec.ofChange keyBackSpec)) keyBackCard

/-- THE TIED CARD OF 'withylaw04.KeyOnce'. -/
def keyOnceCard : Claim7 := { stood := { row := keyOnceRow, standIns := [], harness := (true, "9fe301215be9d564e228206c25b8219c7cc34a6a27aedd16dea22678124f8467"), looks := true }, kinds := [], alts := [], laidByText := true, laidKinds := [.data, .pinned], laidTests := true, laidLooks := .later }
def KeyOnceCardSaid : Prop := Claim7.holds Tryd.pinned (.plain (OpenSpec.ofChange keyOnceSpec)) keyOnceCard

/-- THE TIED CARD OF 'withylaw04.KeyParts'. -/
def keyPartsCard : Claim7 := { stood := { row := keyPartsRow, standIns := [], harness := (true, "9fe301215be9d564e228206c25b8219c7cc34a6a27aedd16dea22678124f8467"), looks := true }, kinds := [], alts := [], laidByText := true, laidKinds := [.data, .pinned], laidTests := true, laidLooks := .later }
def KeyPartsCardSaid : Prop := Claim7.holds Tryd.pinned (.plain (OpenSpec.ofChange keyPartsSpec)) keyPartsCard

/-- THE TIED CARD OF 'withylaw04.KeyMore'. -/
def keyMoreCard : Claim7 := { stood := { row := keyMoreRow, standIns := [], harness := (true, "9fe301215be9d564e228206c25b8219c7cc34a6a27aedd16dea22678124f8467"), looks := true }, kinds := [], alts := [], laidByText := true, laidKinds := [.data, .pinned], laidTests := true, laidLooks := .later }
def KeyMoreCardSaid : Prop := Claim7.holds Tryd.pinned (.plain (OpenSpec.ofChange keyMoreSpec)) keyMoreCard

/-- THE SECOND FORM's CARD OF 'withylaw03.ColOrder'. -/
def colOrderUptoCard : Claim7 := { stood := { row := colOrderUptoRow, standIns := [], harness := (true, "9fe301215be9d564e228206c25b8219c7cc34a6a27aedd16dea22678124f8467"), looks := true }, kinds := [], alts := [], laidByText := true, laidKinds := [.data, .pinned], laidTests := true, laidLooks := .later }
def ColOrderUptoCardSaid : Prop := Claim7.holds Tryd.pinned (.plain (OpenSpec.upto colOrderSpec)) colOrderUptoCard

/-- THE SECOND FORM's CARD OF 'withylaw03.ColBack'. -/
def colBackUptoCard : Claim7 := { stood := { row := colBackUptoRow, standIns := [], harness := (true, "9fe301215be9d564e228206c25b8219c7cc34a6a27aedd16dea22678124f8467"), looks := true }, kinds := [], alts := [], laidByText := true, laidKinds := [.data, .pinned], laidTests := true, laidLooks := .later }
def ColBackUptoCardSaid : Prop := Claim7.holds Tryd.pinned (.plain (OpenSpec.upto colBackSpec)) colBackUptoCard

/-- THE SECOND FORM's CARD OF 'withylaw03.ColOnce'. -/
def colOnceUptoCard : Claim7 := { stood := { row := colOnceUptoRow, standIns := [], harness := (true, "9fe301215be9d564e228206c25b8219c7cc34a6a27aedd16dea22678124f8467"), looks := true }, kinds := [], alts := [], laidByText := true, laidKinds := [.data, .pinned], laidTests := true, laidLooks := .later }
def ColOnceUptoCardSaid : Prop := Claim7.holds Tryd.pinned (.plain (OpenSpec.upto colOnceSpec)) colOnceUptoCard

/-- THE SECOND FORM's CARD OF 'withylaw03.ColSizes'. -/
def colSizesUptoCard : Claim7 := { stood := { row := colSizesUptoRow, standIns := [], harness := (true, "9fe301215be9d564e228206c25b8219c7cc34a6a27aedd16dea22678124f8467"), looks := true }, kinds := [], alts := [], laidByText := true, laidKinds := [.data, .pinned], laidTests := true, laidLooks := .later }
def ColSizesUptoCardSaid : Prop := Claim7.holds Tryd.pinned (.plain (OpenSpec.upto colSizesSpec)) colSizesUptoCard

/-- THE SECOND FORM's CARD OF 'withylaw04.KeyTells'. -/
def keyTellsUptoCard : Claim7 := { stood := { row := keyTellsUptoRow, standIns := [], harness := (true, "9fe301215be9d564e228206c25b8219c7cc34a6a27aedd16dea22678124f8467"), looks := true }, kinds := [], alts := [], laidByText := true, laidKinds := [.data, .pinned], laidTests := true, laidLooks := .later }
def KeyTellsUptoCardSaid : Prop := Claim7.holds Tryd.pinned (.plain (OpenSpec.upto keyTellsSpec)) keyTellsUptoCard

/-- THE SECOND FORM's CARD OF 'withylaw04.KeyOrder'. -/
def keyOrderUptoCard : Claim7 := { stood := { row := keyOrderUptoRow, standIns := [], harness := (true, "9fe301215be9d564e228206c25b8219c7cc34a6a27aedd16dea22678124f8467"), looks := true }, kinds := [], alts := [], laidByText := true, laidKinds := [.data, .pinned], laidTests := true, laidLooks := .later }
def KeyOrderUptoCardSaid : Prop := Claim7.holds Tryd.pinned (.plain (OpenSpec.upto keyOrderSpec)) keyOrderUptoCard

/-- THE SECOND FORM's CARD OF 'withylaw04.KeyBack'. -/
def keyBackUptoCard : Claim7 := { stood := { row := keyBackUptoRow, standIns := [], harness := (true, "9fe301215be9d564e228206c25b8219c7cc34a6a27aedd16dea22678124f8467"), looks := true }, kinds := [], alts := [], laidByText := true, laidKinds := [.data, .pinned], laidTests := true, laidLooks := .later }
def KeyBackUptoCardSaid : Prop := Claim7.holds Tryd.pinned (.plain (OpenSpec.upto keyBackSpec)) keyBackUptoCard

/-- THE SECOND FORM's CARD OF 'withylaw04.KeyOnce'. -/
def keyOnceUptoCard : Claim7 := { stood := { row := keyOnceUptoRow, standIns := [], harness := (true, "9fe301215be9d564e228206c25b8219c7cc34a6a27aedd16dea22678124f8467"), looks := true }, kinds := [], alts := [], laidByText := true, laidKinds := [.data, .pinned], laidTests := true, laidLooks := .later }
def KeyOnceUptoCardSaid : Prop := Claim7.holds Tryd.pinned (.plain (OpenSpec.upto keyOnceSpec)) keyOnceUptoCard

/-- THE SECOND FORM's CARD OF 'withylaw04.KeyParts'. -/
def keyPartsUptoCard : Claim7 := { stood := { row := keyPartsUptoRow, standIns := [], harness := (true, "9fe301215be9d564e228206c25b8219c7cc34a6a27aedd16dea22678124f8467"), looks := true }, kinds := [], alts := [], laidByText := true, laidKinds := [.data, .pinned], laidTests := true, laidLooks := .later }
def KeyPartsUptoCardSaid : Prop := Claim7.holds Tryd.pinned (.plain (OpenSpec.upto keyPartsSpec)) keyPartsUptoCard

/-- THE SECOND FORM's CARD OF 'withylaw04.KeyMore'. -/
def keyMoreUptoCard : Claim7 := { stood := { row := keyMoreUptoRow, standIns := [], harness := (true, "9fe301215be9d564e228206c25b8219c7cc34a6a27aedd16dea22678124f8467"), looks := true }, kinds := [], alts := [], laidByText := true, laidKinds := [.data, .pinned], laidTests := true, laidLooks := .later }
def KeyMoreUptoCardSaid : Prop := Claim7.holds Tryd.pinned (.plain (OpenSpec.upto keyMoreSpec)) keyMoreUptoCard
end Rows
end Go.Proofs.YtimnjdgelencpaaDoor
