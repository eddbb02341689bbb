/-
  DERIVED. GIVEN WITH THE SEED: THE CARDS: each row of YtblpfelhgcggfaaDoorRows.lean that lists a variable, with what it lists TIED to the program's text (the seventh form; the later family's looks); each row that meets fmt, with fmt's text TOLD by the authors' own Lean function (tested against real Go, not proved from fmt's source: count such statements apart). THE CARD IS WHAT COUNTS. Prove the row's statement (the work); the ties are given (YtblpfelhgcggfaaDoorTie.lean); close each card by the builder's one call (the guide's Derived/Test/ToyasCard.lean, 'card_holds'). Laid BY PROGRAM, IN A SANDBOX (cutbox-door.mjs). By AI agents, Wed Nov 11 2026. No macro, syntax, notation, axiom, sorry.
-/
import Derived.Test.YtblpfelhgcggfaaDoorRows
import GoSem.ClaimSeven
namespace Go.Proofs.YtblpfelhgcggfaaDoor
namespace Rows

/-- THE TIED CARD OF 'scrollbacklaw27.WrapRows'. -/
def wrapRowsCard : Claim7 := { stood := { row := wrapRowsRow, standIns := [], harness := (true, "0c3b6a9d034ec1fe3e314497cec0e2b201bd6dc1e40514e1ac6caf7559734f91"), looks := false }, kinds := [], alts := [], laidByText := true, laidKinds := [.widerDeep, .widerDeep], laidTests := true, laidLooks := .later }
def WrapRowsCardSaid : Prop := Claim7.holds Tryd.pinned (.plain (OpenSpec.ofChange wrapRowsSpec)) wrapRowsCard

/-- THE TIED CARD OF 'scrollbacklaw27.WrapPlaces'. -/
def wrapPlacesCard : Claim7 := { stood := { row := wrapPlacesRow, standIns := [], harness := (true, "0c3b6a9d034ec1fe3e314497cec0e2b201bd6dc1e40514e1ac6caf7559734f91"), looks := false }, kinds := [], alts := [], laidByText := true, laidKinds := [.widerDeep, .widerDeep], laidTests := true, laidLooks := .later }
def WrapPlacesCardSaid : Prop := Claim7.holds Tryd.pinned (.plain (OpenSpec.ofChange wrapPlacesSpec)) wrapPlacesCard

/-- THE TIED CARD OF 'scrollbacklaw27.WrapAll'. -/
def wrapAllCard : Claim7 := { stood := { row := wrapAllRow, standIns := [], harness := (true, "0c3b6a9d034ec1fe3e314497cec0e2b201bd6dc1e40514e1ac6caf7559734f91"), looks := false }, kinds := [], alts := [], laidByText := true, laidKinds := [.widerDeep, .widerDeep], laidTests := true, laidLooks := .later }
def WrapAllCardSaid : Prop := Claim7.holds Tryd.pinned (.plain (OpenSpec.ofChange wrapAllSpec)) wrapAllCard

/-- THE TIED CARD OF 'scrollbacklaw27.WrapLongs'. -/
def wrapLongsCard : Claim7 := { stood := { row := wrapLongsRow, standIns := [], harness := (true, "0c3b6a9d034ec1fe3e314497cec0e2b201bd6dc1e40514e1ac6caf7559734f91"), looks := false }, kinds := [], alts := [], laidByText := true, laidKinds := [.widerDeep, .widerDeep], laidTests := true, laidLooks := .later }
def WrapLongsCardSaid : Prop := Claim7.holds Tryd.pinned (.plain (OpenSpec.ofChange wrapLongsSpec)) wrapLongsCard

/-- THE TIED CARD OF 'scrollbacklaw27.WrapHolds'. -/
def wrapHoldsCard : Claim7 := { stood := { row := wrapHoldsRow, standIns := [], harness := (true, "0c3b6a9d034ec1fe3e314497cec0e2b201bd6dc1e40514e1ac6caf7559734f91"), looks := false }, kinds := [], alts := [], laidByText := true, laidKinds := [.widerDeep, .widerDeep], laidTests := true, laidLooks := .later }
def WrapHoldsCardSaid : Prop := Claim7.holds Tryd.pinned (.plain (OpenSpec.ofChange wrapHoldsSpec)) wrapHoldsCard

/-- THE TIED CARD OF 'scrollbacklaw28.UnwrapLines'. -/
def unwrapLinesCard : Claim7 := { stood := { row := unwrapLinesRow, standIns := [], harness := (true, "0c3b6a9d034ec1fe3e314497cec0e2b201bd6dc1e40514e1ac6caf7559734f91"), looks := false }, kinds := [], alts := [], laidByText := true, laidKinds := [.widerDeep, .widerDeep], laidTests := true, laidLooks := .later }
def UnwrapLinesCardSaid : Prop := Claim7.holds Tryd.pinned (.plain (OpenSpec.ofChange unwrapLinesSpec)) unwrapLinesCard

/-- THE TIED CARD OF 'scrollbacklaw28.UnwrapTexts'. -/
def unwrapTextsCard : Claim7 := { stood := { row := unwrapTextsRow, standIns := [], harness := (true, "0c3b6a9d034ec1fe3e314497cec0e2b201bd6dc1e40514e1ac6caf7559734f91"), looks := false }, kinds := [], alts := [], laidByText := true, laidKinds := [.widerDeep, .widerDeep], laidTests := true, laidLooks := .later }
def UnwrapTextsCardSaid : Prop := Claim7.holds Tryd.pinned (.plain (OpenSpec.ofChange unwrapTextsSpec)) unwrapTextsCard

/-- THE TIED CARD OF 'scrollbacklaw28.UnwrapHolds'. -/
def unwrapHoldsCard : Claim7 := { stood := { row := unwrapHoldsRow, standIns := [], harness := (true, "0c3b6a9d034ec1fe3e314497cec0e2b201bd6dc1e40514e1ac6caf7559734f91"), looks := false }, kinds := [], alts := [], laidByText := true, laidKinds := [.widerDeep, .widerDeep], laidTests := true, laidLooks := .later }
def UnwrapHoldsCardSaid : Prop := Claim7.holds Tryd.pinned (.plain (OpenSpec.ofChange unwrapHoldsSpec)) unwrapHoldsCard

/-- THE TIED CARD OF 'scrollbacklaw28.UnwrapWraps'. -/
def unwrapWrapsCard : Claim7 := { stood := { row := unwrapWrapsRow, standIns := [], harness := (true, "0c3b6a9d034ec1fe3e314497cec0e2b201bd6dc1e40514e1ac6caf7559734f91"), looks := false }, kinds := [], alts := [], laidByText := true, laidKinds := [.widerDeep, .widerDeep], laidTests := true, laidLooks := .later }
def UnwrapWrapsCardSaid : Prop := Claim7.holds Tryd.pinned (.plain (OpenSpec.ofChange unwrapWrapsSpec)) unwrapWrapsCard

/-- THE SECOND FORM's CARD OF 'scrollbacklaw27.WrapRows'. -/
def wrapRowsUptoCard : Claim7 := { stood := { row := wrapRowsUptoRow, standIns := [], harness := (true, "0c3b6a9d034ec1fe3e314497cec0e2b201bd6dc1e40514e1ac6caf7559734f91"), looks := false }, kinds := [], alts := [], laidByText := true, laidKinds := [.widerDeep, .widerDeep], laidTests := true, laidLooks := .later }
def WrapRowsUptoCardSaid : Prop := Claim7.holds Tryd.pinned (.plain (OpenSpec.upto wrapRowsSpec)) wrapRowsUptoCard

/-- THE SECOND FORM's CARD OF 'scrollbacklaw27.WrapPlaces'. -/
def wrapPlacesUptoCard : Claim7 := { stood := { row := wrapPlacesUptoRow, standIns := [], harness := (true, "0c3b6a9d034ec1fe3e314497cec0e2b201bd6dc1e40514e1ac6caf7559734f91"), looks := false }, kinds := [], alts := [], laidByText := true, laidKinds := [.widerDeep, .widerDeep], laidTests := true, laidLooks := .later }
def WrapPlacesUptoCardSaid : Prop := Claim7.holds Tryd.pinned (.plain (OpenSpec.upto wrapPlacesSpec)) wrapPlacesUptoCard

/-- THE SECOND FORM's CARD OF 'scrollbacklaw27.WrapAll'. -/
def wrapAllUptoCard : Claim7 := { stood := { row := wrapAllUptoRow, standIns := [], harness := (true, "0c3b6a9d034ec1fe3e314497cec0e2b201bd6dc1e40514e1ac6caf7559734f91"), looks := false }, kinds := [], alts := [], laidByText := true, laidKinds := [.widerDeep, .widerDeep], laidTests := true, laidLooks := .later }
def WrapAllUptoCardSaid : Prop := Claim7.holds Tryd.pinned (.plain (OpenSpec.upto wrapAllSpec)) wrapAllUptoCard

/-- THE SECOND FORM's CARD OF 'scrollbacklaw27.WrapLongs'. -/
def wrapLongsUptoCard : Claim7 := { stood := { row := wrapLongsUptoRow, standIns := [], harness := (true, "0c3b6a9d034ec1fe3e314497cec0e2b201bd6dc1e40514e1ac6caf7559734f91"), looks := false }, kinds := [], alts := [], laidByText := true, laidKinds := [.widerDeep, .widerDeep], laidTests := true, laidLooks := .later }
def WrapLongsUptoCardSaid : Prop := Claim7.holds Tryd.pinned (.plain (OpenSpec.upto wrapLongsSpec)) wrapLongsUptoCard

/-- THE SECOND FORM's CARD OF 'scrollbacklaw27.WrapHolds'. -/
def wrapHoldsUptoCard : Claim7 := { stood := { row := wrapHoldsUptoRow, standIns := [], harness := (true, "0c3b6a9d034ec1fe3e314497cec0e2b201bd6dc1e40514e1ac6caf7559734f91"), looks := false }, kinds := [], alts := [], laidByText := true, laidKinds := [.widerDeep, .widerDeep], laidTests := true, laidLooks := .later }
def WrapHoldsUptoCardSaid : Prop := Claim7.holds Tryd.pinned (.plain (OpenSpec.upto wrapHoldsSpec)) wrapHoldsUptoCard

/-- THE SECOND FORM's CARD OF 'scrollbacklaw28.UnwrapLines'. -/
def unwrapLinesUptoCard : Claim7 := { stood := { row := unwrapLinesUptoRow, standIns := [], harness := (true, "0c3b6a9d034ec1fe3e314497cec0e2b201bd6dc1e40514e1ac6caf7559734f91"), looks := false }, kinds := [], alts := [], laidByText := true, laidKinds := [.widerDeep, .widerDeep], laidTests := true, laidLooks := .later }
def UnwrapLinesUptoCardSaid : Prop := Claim7.holds Tryd.pinned (.plain (OpenSpec.upto unwrapLinesSpec)) unwrapLinesUptoCard

/-- THE SECOND FORM's CARD OF 'scrollbacklaw28.UnwrapTexts'. -/
def unwrapTextsUptoCard : Claim7 := { stood := { row := unwrapTextsUptoRow, standIns := [], harness := (true, "0c3b6a9d034ec1fe3e314497cec0e2b201bd6dc1e40514e1ac6caf7559734f91"), looks := false }, kinds := [], alts := [], laidByText := true, laidKinds := [.widerDeep, .widerDeep], laidTests := true, laidLooks := .later }
def UnwrapTextsUptoCardSaid : Prop := Claim7.holds Tryd.pinned (.plain (OpenSpec.upto unwrapTextsSpec)) unwrapTextsUptoCard

/-- THE SECOND FORM's CARD OF 'scrollbacklaw28.UnwrapHolds'. -/
def unwrapHoldsUptoCard : Claim7 := { stood := { row := unwrapHoldsUptoRow, standIns := [], harness := (true, "0c3b6a9d034ec1fe3e314497cec0e2b201bd6dc1e40514e1ac6caf7559734f91"), looks := false }, kinds := [], alts := [], laidByText := true, laidKinds := [.widerDeep, .widerDeep], laidTests := true, laidLooks := .later }
def UnwrapHoldsUptoCardSaid : Prop := Claim7.holds Tryd.pinned (.plain (OpenSpec.upto unwrapHoldsSpec)) unwrapHoldsUptoCard

/-- THE SECOND FORM's CARD OF 'scrollbacklaw28.UnwrapWraps'. -/
def unwrapWrapsUptoCard : Claim7 := { stood := { row := unwrapWrapsUptoRow, standIns := [], harness := (true, "0c3b6a9d034ec1fe3e314497cec0e2b201bd6dc1e40514e1ac6caf7559734f91"), looks := false }, kinds := [], alts := [], laidByText := true, laidKinds := [.widerDeep, .widerDeep], laidTests := true, laidLooks := .later }
def UnwrapWrapsUptoCardSaid : Prop := Claim7.holds Tryd.pinned (.plain (OpenSpec.upto unwrapWrapsSpec)) unwrapWrapsUptoCard
end Rows
end Go.Proofs.YtblpfelhgcggfaaDoor
