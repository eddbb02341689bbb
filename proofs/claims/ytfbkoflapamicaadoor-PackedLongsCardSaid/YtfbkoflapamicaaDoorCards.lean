/-
  DERIVED. GIVEN WITH THE SEED: THE CARDS: each row of YtfbkoflapamicaaDoorRows.lean that lists a variable, with what it lists TIED to the program's text (the seventh form; the later family's looks); each row that meets fmt, with fmt's text TOLD by the authors' own Lean function (tested against real Go, not proved from fmt's source: count such statements apart). THE CARD IS WHAT COUNTS. Prove the row's statement (the work); the ties are given (YtfbkoflapamicaaDoorTie.lean); close each card by the builder's one call (the guide's Derived/Test/ToyasCard.lean, 'card_holds'). Laid BY PROGRAM, IN A SANDBOX (cutbox-door.mjs). By AI agents, Wed Nov 11 2026. No macro, syntax, notation, axiom, sorry.
-/
import Derived.Test.YtfbkoflapamicaaDoorRows
import GoSem.ClaimSeven
namespace Go.Proofs.YtfbkoflapamicaaDoor
namespace Rows

/-- THE TIED CARD OF 'scrollbacklaw05.PackedCells'. -/
def packedCellsCard : Claim7 := { stood := { row := packedCellsRow, standIns := [], harness := (true, "5f419c5528f74ef041f2dd12a4ad7c2b2c068591ad1e857339bcdae9c2df131f"), looks := false }, kinds := [], alts := [], laidByText := true, laidKinds := [.widerDeep, .widerDeep], laidTests := true, laidLooks := .later }
def PackedCellsCardSaid : Prop := Claim7.holds Tryd.pinned (.plain (OpenSpec.ofChange packedCellsSpec)) packedCellsCard

/-- THE TIED CARD OF 'scrollbacklaw05.PackedWords'. -/
def packedWordsCard : Claim7 := { stood := { row := packedWordsRow, standIns := [], harness := (true, "5f419c5528f74ef041f2dd12a4ad7c2b2c068591ad1e857339bcdae9c2df131f"), looks := false }, kinds := [], alts := [], laidByText := true, laidKinds := [.widerDeep, .widerDeep], laidTests := true, laidLooks := .later }
def PackedWordsCardSaid : Prop := Claim7.holds Tryd.pinned (.plain (OpenSpec.ofChange packedWordsSpec)) packedWordsCard

/-- THE TIED CARD OF 'scrollbacklaw05.PackedPacks'. -/
def packedPacksCard : Claim7 := { stood := { row := packedPacksRow, standIns := [], harness := (true, "5f419c5528f74ef041f2dd12a4ad7c2b2c068591ad1e857339bcdae9c2df131f"), looks := false }, kinds := [], alts := [], laidByText := true, laidKinds := [.widerDeep, .widerDeep], laidTests := true, laidLooks := .later }
def PackedPacksCardSaid : Prop := Claim7.holds Tryd.pinned (.plain (OpenSpec.ofChange packedPacksSpec)) packedPacksCard

/-- THE TIED CARD OF 'scrollbacklaw05.PackedRuns'. -/
def packedRunsCard : Claim7 := { stood := { row := packedRunsRow, standIns := [], harness := (true, "5f419c5528f74ef041f2dd12a4ad7c2b2c068591ad1e857339bcdae9c2df131f"), looks := false }, kinds := [], alts := [], laidByText := true, laidKinds := [.widerDeep, .widerDeep], laidTests := true, laidLooks := .later }
def PackedRunsCardSaid : Prop := Claim7.holds Tryd.pinned (.plain (OpenSpec.ofChange packedRunsSpec)) packedRunsCard

/-- THE TIED CARD OF 'scrollbacklaw05.PackedLongs'. -/
def packedLongsCard : Claim7 := { stood := { row := packedLongsRow, standIns := [], harness := (true, "5f419c5528f74ef041f2dd12a4ad7c2b2c068591ad1e857339bcdae9c2df131f"), looks := false }, kinds := [], alts := [], laidByText := true, laidKinds := [.widerDeep, .widerDeep], laidTests := true, laidLooks := .later }
def PackedLongsCardSaid : Prop := Claim7.holds Tryd.pinned (.plain (OpenSpec.ofChange packedLongsSpec)) packedLongsCard

/-- THE TIED CARD OF 'scrollbacklaw05.PackedHolds'. -/
def packedHoldsCard : Claim7 := { stood := { row := packedHoldsRow, standIns := [], harness := (true, "5f419c5528f74ef041f2dd12a4ad7c2b2c068591ad1e857339bcdae9c2df131f"), looks := false }, kinds := [], alts := [], laidByText := true, laidKinds := [.widerDeep, .widerDeep], laidTests := true, laidLooks := .later }
def PackedHoldsCardSaid : Prop := Claim7.holds Tryd.pinned (.plain (OpenSpec.ofChange packedHoldsSpec)) packedHoldsCard

/-- THE SECOND FORM's CARD OF 'scrollbacklaw05.PackedCells'. -/
def packedCellsUptoCard : Claim7 := { stood := { row := packedCellsUptoRow, standIns := [], harness := (true, "5f419c5528f74ef041f2dd12a4ad7c2b2c068591ad1e857339bcdae9c2df131f"), looks := false }, kinds := [], alts := [], laidByText := true, laidKinds := [.widerDeep, .widerDeep], laidTests := true, laidLooks := .later }
def PackedCellsUptoCardSaid : Prop := Claim7.holds Tryd.pinned (.plain (OpenSpec.upto packedCellsSpec)) packedCellsUptoCard

/-- THE SECOND FORM's CARD OF 'scrollbacklaw05.PackedWords'. -/
def packedWordsUptoCard : Claim7 := { stood := { row := packedWordsUptoRow, standIns := [], harness := (true, "5f419c5528f74ef041f2dd12a4ad7c2b2c068591ad1e857339bcdae9c2df131f"), looks := false }, kinds := [], alts := [], laidByText := true, laidKinds := [.widerDeep, .widerDeep], laidTests := true, laidLooks := .later }
def PackedWordsUptoCardSaid : Prop := Claim7.holds Tryd.pinned (.plain (OpenSpec.upto packedWordsSpec)) packedWordsUptoCard

/-- THE SECOND FORM's CARD OF 'scrollbacklaw05.PackedPacks'. -/
def packedPacksUptoCard : Claim7 := { stood := { row := packedPacksUptoRow, standIns := [], harness := (true, "5f419c5528f74ef041f2dd12a4ad7c2b2c068591ad1e857339bcdae9c2df131f"), looks := false }, kinds := [], alts := [], laidByText := true, laidKinds := [.widerDeep, .widerDeep], laidTests := true, laidLooks := .later }
def PackedPacksUptoCardSaid : Prop := Claim7.holds Tryd.pinned (.plain (OpenSpec.upto packedPacksSpec)) packedPacksUptoCard

/-- THE SECOND FORM's CARD OF 'scrollbacklaw05.PackedRuns'. -/
def packedRunsUptoCard : Claim7 := { stood := { row := packedRunsUptoRow, standIns := [], harness := (true, "5f419c5528f74ef041f2dd12a4ad7c2b2c068591ad1e857339bcdae9c2df131f"), looks := false }, kinds := [], alts := [], laidByText := true, laidKinds := [.widerDeep, .widerDeep], laidTests := true, laidLooks := .later }
def PackedRunsUptoCardSaid : Prop := Claim7.holds Tryd.pinned (.plain (OpenSpec.upto packedRunsSpec)) packedRunsUptoCard

/-- THE SECOND FORM's CARD OF 'scrollbacklaw05.PackedLongs'. -/
def packedLongsUptoCard : Claim7 := { stood := { row := packedLongsUptoRow, standIns := [], harness := (true, "5f419c5528f74ef041f2dd12a4ad7c2b2c068591ad1e857339bcdae9c2df131f"), looks := false }, kinds := [], alts := [], laidByText := true, laidKinds := [.widerDeep, .widerDeep], laidTests := true, laidLooks := .later }
def PackedLongsUptoCardSaid : Prop := Claim7.holds Tryd.pinned (.plain (OpenSpec.upto packedLongsSpec)) packedLongsUptoCard

/-- THE SECOND FORM's CARD OF 'scrollbacklaw05.PackedHolds'. -/
def packedHoldsUptoCard : Claim7 := { stood := { row := packedHoldsUptoRow, standIns := [], harness := (true, "5f419c5528f74ef041f2dd12a4ad7c2b2c068591ad1e857339bcdae9c2df131f"), looks := false }, kinds := [], alts := [], laidByText := true, laidKinds := [.widerDeep, .widerDeep], laidTests := true, laidLooks := .later }
def PackedHoldsUptoCardSaid : Prop := Claim7.holds Tryd.pinned (.plain (OpenSpec.upto packedHoldsSpec)) packedHoldsUptoCard
end Rows
end Go.Proofs.YtfbkoflapamicaaDoor
