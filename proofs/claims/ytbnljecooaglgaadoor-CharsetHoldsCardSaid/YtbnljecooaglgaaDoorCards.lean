/-
  DERIVED. GIVEN WITH THE SEED: THE CARDS: each row of YtbnljecooaglgaaDoorRows.lean that lists a variable, with what it lists TIED to the program's text (the seventh form; the later family's looks); each row that meets fmt, with fmt's text TOLD by the authors' own Lean function (tested against real Go, not proved from fmt's source: count such statements apart). THE CARD IS WHAT COUNTS. Prove the row's statement (the work); the ties are given (YtbnljecooaglgaaDoorTie.lean); close each card by the builder's one call (the guide's Derived/Test/ToyasCard.lean, 'card_holds'). Laid BY PROGRAM, IN A SANDBOX (cutbox-door.mjs). By AI agents, Wed Nov 11 2026. No macro, syntax, notation, axiom, sorry.
-/
import Derived.Test.YtbnljecooaglgaaDoorRows
import GoSem.ClaimSeven
namespace Go.Proofs.YtbnljecooaglgaaDoor
namespace Rows

/-- THE TIED CARD OF 'scrollbacklaw13.CharsetSets'. -/
def charsetSetsCard : Claim7 := { stood := { row := charsetSetsRow, standIns := [], harness := (true, "ca7925c230165862814b5b4384de058f9461e276a66714ecdc238923748a58fb"), looks := false }, kinds := [], alts := [], laidByText := true, laidKinds := [.widerDeep, .widerDeep], laidTests := true, laidLooks := .later }
def CharsetSetsCardSaid : Prop := Claim7.holds Tryd.pinned (.plain (OpenSpec.ofChange charsetSetsSpec)) charsetSetsCard

/-- THE TIED CARD OF 'scrollbacklaw13.CharsetMaps'. -/
def charsetMapsCard : Claim7 := { stood := { row := charsetMapsRow, standIns := [], harness := (true, "ca7925c230165862814b5b4384de058f9461e276a66714ecdc238923748a58fb"), looks := false }, kinds := [], alts := [], laidByText := true, laidKinds := [.widerDeep, .widerDeep], laidTests := true, laidLooks := .later }
def CharsetMapsCardSaid : Prop := Claim7.holds Tryd.pinned (.plain (OpenSpec.ofChange charsetMapsSpec)) charsetMapsCard

/-- THE TIED CARD OF 'scrollbacklaw13.CharsetRows'. -/
def charsetRowsCard : Claim7 := { stood := { row := charsetRowsRow, standIns := [], harness := (true, "ca7925c230165862814b5b4384de058f9461e276a66714ecdc238923748a58fb"), looks := false }, kinds := [], alts := [], laidByText := true, laidKinds := [.widerDeep, .widerDeep], laidTests := true, laidLooks := .later }
def CharsetRowsCardSaid : Prop := Claim7.holds Tryd.pinned (.plain (OpenSpec.ofChange charsetRowsSpec)) charsetRowsCard

/-- THE TIED CARD OF 'scrollbacklaw13.CharsetFinals'. -/
def charsetFinalsCard : Claim7 := { stood := { row := charsetFinalsRow, standIns := [], harness := (true, "ca7925c230165862814b5b4384de058f9461e276a66714ecdc238923748a58fb"), looks := false }, kinds := [], alts := [], laidByText := true, laidKinds := [.widerDeep, .widerDeep], laidTests := true, laidLooks := .later }
def CharsetFinalsCardSaid : Prop := Claim7.holds Tryd.pinned (.plain (OpenSpec.ofChange charsetFinalsSpec)) charsetFinalsCard

/-- THE TIED CARD OF 'scrollbacklaw13.CharsetHolds'. -/
def charsetHoldsCard : Claim7 := { stood := { row := charsetHoldsRow, standIns := [], harness := (true, "ca7925c230165862814b5b4384de058f9461e276a66714ecdc238923748a58fb"), looks := false }, kinds := [], alts := [], laidByText := true, laidKinds := [.widerDeep, .widerDeep], laidTests := true, laidLooks := .later }
def CharsetHoldsCardSaid : Prop := Claim7.holds Tryd.pinned (.plain (OpenSpec.ofChange charsetHoldsSpec)) charsetHoldsCard

/-- THE SECOND FORM's CARD OF 'scrollbacklaw13.CharsetSets'. -/
def charsetSetsUptoCard : Claim7 := { stood := { row := charsetSetsUptoRow, standIns := [], harness := (true, "ca7925c230165862814b5b4384de058f9461e276a66714ecdc238923748a58fb"), looks := false }, kinds := [], alts := [], laidByText := true, laidKinds := [.widerDeep, .widerDeep], laidTests := true, laidLooks := .later }
def CharsetSetsUptoCardSaid : Prop := Claim7.holds Tryd.pinned (.plain (OpenSpec.upto charsetSetsSpec)) charsetSetsUptoCard

/-- THE SECOND FORM's CARD OF 'scrollbacklaw13.CharsetMaps'. -/
def charsetMapsUptoCard : Claim7 := { stood := { row := charsetMapsUptoRow, standIns := [], harness := (true, "ca7925c230165862814b5b4384de058f9461e276a66714ecdc238923748a58fb"), looks := false }, kinds := [], alts := [], laidByText := true, laidKinds := [.widerDeep, .widerDeep], laidTests := true, laidLooks := .later }
def CharsetMapsUptoCardSaid : Prop := Claim7.holds Tryd.pinned (.plain (OpenSpec.upto charsetMapsSpec)) charsetMapsUptoCard

/-- THE SECOND FORM's CARD OF 'scrollbacklaw13.CharsetRows'. -/
def charsetRowsUptoCard : Claim7 := { stood := { row := charsetRowsUptoRow, standIns := [], harness := (true, "ca7925c230165862814b5b4384de058f9461e276a66714ecdc238923748a58fb"), looks := false }, kinds := [], alts := [], laidByText := true, laidKinds := [.widerDeep, .widerDeep], laidTests := true, laidLooks := .later }
def CharsetRowsUptoCardSaid : Prop := Claim7.holds Tryd.pinned (.plain (OpenSpec.upto charsetRowsSpec)) charsetRowsUptoCard

/-- THE SECOND FORM's CARD OF 'scrollbacklaw13.CharsetFinals'. -/
def charsetFinalsUptoCard : Claim7 := { stood := { row := charsetFinalsUptoRow, standIns := [], harness := (true, "ca7925c230165862814b5b4384de058f9461e276a66714ecdc238923748a58fb"), looks := false }, kinds := [], alts := [], laidByText := true, laidKinds := [.widerDeep, .widerDeep], laidTests := true, laidLooks := .later }
def CharsetFinalsUptoCardSaid : Prop := Claim7.holds Tryd.pinned (.plain (OpenSpec.upto charsetFinalsSpec)) charsetFinalsUptoCard

/-- THE SECOND FORM's CARD OF 'scrollbacklaw13.CharsetHolds'. -/
def charsetHoldsUptoCard : Claim7 := { stood := { row := charsetHoldsUptoRow, standIns := [], harness := (true, "ca7925c230165862814b5b4384de058f9461e276a66714ecdc238923748a58fb"), looks := false }, kinds := [], alts := [], laidByText := true, laidKinds := [.widerDeep, .widerDeep], laidTests := true, laidLooks := .later }
def CharsetHoldsUptoCardSaid : Prop := Claim7.holds Tryd.pinned (.plain (OpenSpec.upto charsetHoldsSpec)) charsetHoldsUptoCard
end Rows
end Go.Proofs.YtbnljecooaglgaaDoor
