/-
  DERIVED. GIVEN WITH THE SEED: THE CARDS: each row of YtdmpodpdpncobaaDoorRows.lean that lists a variable, with what it lists TIED to the program's text (the seventh form; the later family's looks); each row that meets fmt, with fmt's text TOLD by the authors' own Lean function (tested against real Go, not proved from fmt's source: count such statements apart). THE CARD IS WHAT COUNTS. Prove the row's statement (the work); the ties are given (YtdmpodpdpncobaaDoorTie.lean); close each card by the builder's one call (the guide's Derived/Test/ToyasCard.lean, 'card_holds'). Laid BY PROGRAM, IN A SANDBOX (cutbox-door.mjs). By AI agents, Wed Nov 11 2026. No macro, syntax, notation, axiom, sorry.
-/
import Derived.Test.YtdmpodpdpncobaaDoorRows
import GoSem.ClaimSeven
namespace Go.Proofs.YtdmpodpdpncobaaDoor
namespace Rows

/-- THE TIED CARD OF 'scrollbacklaw29.AnchorTo'. -/
def anchorToCard : Claim7 := { stood := { row := anchorToRow, standIns := [], harness := (true, "6bc1fead5b6b8d8fc454b93d0109bb07c52d175376af9ce2fe7d951a811aeb48"), looks := false }, kinds := [], alts := [], laidByText := true, laidKinds := [.widerDeep, .widerDeep], laidTests := true, laidLooks := .later }
def AnchorToCardSaid : Prop := Claim7.holds Tryd.pinned (.plain (OpenSpec.ofChange anchorToSpec)) anchorToCard

/-- THE TIED CARD OF 'scrollbacklaw29.AnchorFrom'. -/
def anchorFromCard : Claim7 := { stood := { row := anchorFromRow, standIns := [], harness := (true, "6bc1fead5b6b8d8fc454b93d0109bb07c52d175376af9ce2fe7d951a811aeb48"), looks := false }, kinds := [], alts := [], laidByText := true, laidKinds := [.widerDeep, .widerDeep], laidTests := true, laidLooks := .later }
def AnchorFromCardSaid : Prop := Claim7.holds Tryd.pinned (.plain (OpenSpec.ofChange anchorFromSpec)) anchorFromCard

/-- THE TIED CARD OF 'scrollbacklaw29.AnchorCarries'. -/
def anchorCarriesCard : Claim7 := { stood := { row := anchorCarriesRow, standIns := [], harness := (true, "6bc1fead5b6b8d8fc454b93d0109bb07c52d175376af9ce2fe7d951a811aeb48"), looks := false }, kinds := [], alts := [], laidByText := true, laidKinds := [.widerDeep, .widerDeep], laidTests := true, laidLooks := .later }
def AnchorCarriesCardSaid : Prop := Claim7.holds Tryd.pinned (.plain (OpenSpec.ofChange anchorCarriesSpec)) anchorCarriesCard

/-- THE TIED CARD OF 'scrollbacklaw29.AnchorBacks'. -/
def anchorBacksCard : Claim7 := { stood := { row := anchorBacksRow, standIns := [], harness := (true, "6bc1fead5b6b8d8fc454b93d0109bb07c52d175376af9ce2fe7d951a811aeb48"), looks := false }, kinds := [], alts := [], laidByText := true, laidKinds := [.widerDeep, .widerDeep], laidTests := true, laidLooks := .later }
def AnchorBacksCardSaid : Prop := Claim7.holds Tryd.pinned (.plain (OpenSpec.ofChange anchorBacksSpec)) anchorBacksCard

/-- THE TIED CARD OF 'scrollbacklaw29.AnchorHolds'. -/
def anchorHoldsCard : Claim7 := { stood := { row := anchorHoldsRow, standIns := [], harness := (true, "6bc1fead5b6b8d8fc454b93d0109bb07c52d175376af9ce2fe7d951a811aeb48"), looks := false }, kinds := [], alts := [], laidByText := true, laidKinds := [.widerDeep, .widerDeep], laidTests := true, laidLooks := .later }
def AnchorHoldsCardSaid : Prop := Claim7.holds Tryd.pinned (.plain (OpenSpec.ofChange anchorHoldsSpec)) anchorHoldsCard

/-- THE TIED CARD OF 'scrollbacklaw30.ReflowMany'. -/
def reflowManyCard : Claim7 := { stood := { row := reflowManyRow, standIns := [], harness := (true, "6bc1fead5b6b8d8fc454b93d0109bb07c52d175376af9ce2fe7d951a811aeb48"), looks := false }, kinds := [], alts := [], laidByText := true, laidKinds := [.widerDeep, .widerDeep], laidTests := true, laidLooks := .later }
def ReflowManyCardSaid : Prop := Claim7.holds Tryd.pinned (.plain (OpenSpec.ofChange reflowManySpec)) reflowManyCard

/-- THE TIED CARD OF 'scrollbacklaw30.ReflowHolds'. -/
def reflowHoldsCard : Claim7 := { stood := { row := reflowHoldsRow, standIns := [], harness := (true, "6bc1fead5b6b8d8fc454b93d0109bb07c52d175376af9ce2fe7d951a811aeb48"), looks := false }, kinds := [], alts := [], laidByText := true, laidKinds := [.widerDeep, .widerDeep], laidTests := true, laidLooks := .later }
def ReflowHoldsCardSaid : Prop := Claim7.holds Tryd.pinned (.plain (OpenSpec.ofChange reflowHoldsSpec)) reflowHoldsCard

/-- THE TIED CARD OF 'scrollbacklaw30.ReflowLines'. -/
def reflowLinesCard : Claim7 := { stood := { row := reflowLinesRow, standIns := [], harness := (true, "6bc1fead5b6b8d8fc454b93d0109bb07c52d175376af9ce2fe7d951a811aeb48"), looks := false }, kinds := [], alts := [], laidByText := true, laidKinds := [.widerDeep, .widerDeep], laidTests := true, laidLooks := .later }
def ReflowLinesCardSaid : Prop := Claim7.holds Tryd.pinned (.plain (OpenSpec.ofChange reflowLinesSpec)) reflowLinesCard

/-- THE TIED CARD OF 'scrollbacklaw30.ReflowSames'. -/
def reflowSamesCard : Claim7 := { stood := { row := reflowSamesRow, standIns := [], harness := (true, "6bc1fead5b6b8d8fc454b93d0109bb07c52d175376af9ce2fe7d951a811aeb48"), looks := false }, kinds := [], alts := [], laidByText := true, laidKinds := [.widerDeep, .widerDeep], laidTests := true, laidLooks := .later }
def ReflowSamesCardSaid : Prop := Claim7.holds Tryd.pinned (.plain (OpenSpec.ofChange reflowSamesSpec)) reflowSamesCard

/-- THE TIED CARD OF 'scrollbacklaw30.ReflowScreens'. -/
def reflowScreensCard : Claim7 := { stood := { row := reflowScreensRow, standIns := [], harness := (true, "6bc1fead5b6b8d8fc454b93d0109bb07c52d175376af9ce2fe7d951a811aeb48"), looks := false }, kinds := [], alts := [], laidByText := true, laidKinds := [.widerDeep, .widerDeep], laidTests := true, laidLooks := .later }
def ReflowScreensCardSaid : Prop := Claim7.holds Tryd.pinned (.plain (OpenSpec.ofChange reflowScreensSpec)) reflowScreensCard

/-- THE SECOND FORM's CARD OF 'scrollbacklaw29.AnchorTo'. -/
def anchorToUptoCard : Claim7 := { stood := { row := anchorToUptoRow, standIns := [], harness := (true, "6bc1fead5b6b8d8fc454b93d0109bb07c52d175376af9ce2fe7d951a811aeb48"), looks := false }, kinds := [], alts := [], laidByText := true, laidKinds := [.widerDeep, .widerDeep], laidTests := true, laidLooks := .later }
def AnchorToUptoCardSaid : Prop := Claim7.holds Tryd.pinned (.plain (OpenSpec.upto anchorToSpec)) anchorToUptoCard

/-- THE SECOND FORM's CARD OF 'scrollbacklaw29.AnchorFrom'. -/
def anchorFromUptoCard : Claim7 := { stood := { row := anchorFromUptoRow, standIns := [], harness := (true, "6bc1fead5b6b8d8fc454b93d0109bb07c52d175376af9ce2fe7d951a811aeb48"), looks := false }, kinds := [], alts := [], laidByText := true, laidKinds := [.widerDeep, .widerDeep], laidTests := true, laidLooks := .later }
def AnchorFromUptoCardSaid : Prop := Claim7.holds Tryd.pinned (.plain (OpenSpec.upto anchorFromSpec)) anchorFromUptoCard

/-- THE SECOND FORM's CARD OF 'scrollbacklaw29.AnchorCarries'. -/
def anchorCarriesUptoCard : Claim7 := { stood := { row := anchorCarriesUptoRow, standIns := [], harness := (true, "6bc1fead5b6b8d8fc454b93d0109bb07c52d175376af9ce2fe7d951a811aeb48"), looks := false }, kinds := [], alts := [], laidByText := true, laidKinds := [.widerDeep, .widerDeep], laidTests := true, laidLooks := .later }
def AnchorCarriesUptoCardSaid : Prop := Claim7.holds Tryd.pinned (.plain (OpenSpec.upto anchorCarriesSpec)) anchorCarriesUptoCard

/-- THE SECOND FORM's CARD OF 'scrollbacklaw29.AnchorBacks'. -/
def anchorBacksUptoCard : Claim7 := { stood := { row := anchorBacksUptoRow, standIns := [], harness := (true, "6bc1fead5b6b8d8fc454b93d0109bb07c52d175376af9ce2fe7d951a811aeb48"), looks := false }, kinds := [], alts := [], laidByText := true, laidKinds := [.widerDeep, .widerDeep], laidTests := true, laidLooks := .later }
def AnchorBacksUptoCardSaid : Prop := Claim7.holds Tryd.pinned (.plain (OpenSpec.upto anchorBacksSpec)) anchorBacksUptoCard

/-- THE SECOND FORM's CARD OF 'scrollbacklaw29.AnchorHolds'. -/
def anchorHoldsUptoCard : Claim7 := { stood := { row := anchorHoldsUptoRow, standIns := [], harness := (true, "6bc1fead5b6b8d8fc454b93d0109bb07c52d175376af9ce2fe7d951a811aeb48"), looks := false }, kinds := [], alts := [], laidByText := true, laidKinds := [.widerDeep, .widerDeep], laidTests := true, laidLooks := .later }
def AnchorHoldsUptoCardSaid : Prop := Claim7.holds Tryd.pinned (.plain (OpenSpec.upto anchorHoldsSpec)) anchorHoldsUptoCard

/-- THE SECOND FORM's CARD OF 'scrollbacklaw30.ReflowMany'. -/
def reflowManyUptoCard : Claim7 := { stood := { row := reflowManyUptoRow, standIns := [], harness := (true, "6bc1fead5b6b8d8fc454b93d0109bb07c52d175376af9ce2fe7d951a811aeb48"), looks := false }, kinds := [], alts := [], laidByText := true, laidKinds := [.widerDeep, .widerDeep], laidTests := true, laidLooks := .later }
def ReflowManyUptoCardSaid : Prop := Claim7.holds Tryd.pinned (.plain (OpenSpec.upto reflowManySpec)) reflowManyUptoCard

/-- THE SECOND FORM's CARD OF 'scrollbacklaw30.ReflowHolds'. -/
def reflowHoldsUptoCard : Claim7 := { stood := { row := reflowHoldsUptoRow, standIns := [], harness := (true, "6bc1fead5b6b8d8fc454b93d0109bb07c52d175376af9ce2fe7d951a811aeb48"), looks := false }, kinds := [], alts := [], laidByText := true, laidKinds := [.widerDeep, .widerDeep], laidTests := true, laidLooks := .later }
def ReflowHoldsUptoCardSaid : Prop := Claim7.holds Tryd.pinned (.plain (OpenSpec.upto reflowHoldsSpec)) reflowHoldsUptoCard

/-- THE SECOND FORM's CARD OF 'scrollbacklaw30.ReflowLines'. -/
def reflowLinesUptoCard : Claim7 := { stood := { row := reflowLinesUptoRow, standIns := [], harness := (true, "6bc1fead5b6b8d8fc454b93d0109bb07c52d175376af9ce2fe7d951a811aeb48"), looks := false }, kinds := [], alts := [], laidByText := true, laidKinds := [.widerDeep, .widerDeep], laidTests := true, laidLooks := .later }
def ReflowLinesUptoCardSaid : Prop := Claim7.holds Tryd.pinned (.plain (OpenSpec.upto reflowLinesSpec)) reflowLinesUptoCard

/-- THE SECOND FORM's CARD OF 'scrollbacklaw30.ReflowSames'. -/
def reflowSamesUptoCard : Claim7 := { stood := { row := reflowSamesUptoRow, standIns := [], harness := (true, "6bc1fead5b6b8d8fc454b93d0109bb07c52d175376af9ce2fe7d951a811aeb48"), looks := false }, kinds := [], alts := [], laidByText := true, laidKinds := [.widerDeep, .widerDeep], laidTests := true, laidLooks := .later }
def ReflowSamesUptoCardSaid : Prop := Claim7.holds Tryd.pinned (.plain (OpenSpec.upto reflowSamesSpec)) reflowSamesUptoCard

/-- THE SECOND FORM's CARD OF 'scrollbacklaw30.ReflowScreens'. -/
def reflowScreensUptoCard : Claim7 := { stood := { row := reflowScreensUptoRow, standIns := [], harness := (true, "6bc1fead5b6b8d8fc454b93d0109bb07c52d175376af9ce2fe7d951a811aeb48"), looks := false }, kinds := [], alts := [], laidByText := true, laidKinds := [.widerDeep, .widerDeep], laidTests := true, laidLooks := .later }
def ReflowScreensUptoCardSaid : Prop := Claim7.holds Tryd.pinned (.plain (OpenSpec.upto reflowScreensSpec)) reflowScreensUptoCard
end Rows
end Go.Proofs.YtdmpodpdpncobaaDoor
