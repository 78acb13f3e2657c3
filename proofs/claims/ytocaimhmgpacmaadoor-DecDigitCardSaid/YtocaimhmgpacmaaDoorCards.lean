/-
  DERIVED. GIVEN WITH THE SEED: THE CARDS: each row of YtocaimhmgpacmaaDoorRows.lean that lists a variable, with what it lists TIED to the program's text (the seventh form; the later family's looks); each row that meets fmt, with fmt's text TOLD by the authors' own Lean function (tested against real Go, not proved from fmt's source: count such statements apart). THE CARD IS WHAT COUNTS. Prove the row's statement (the work); the ties are given (YtocaimhmgpacmaaDoorTie.lean); close each card by the builder's one call (the guide's Derived/Test/ToyasCard.lean, 'card_holds'). Laid BY PROGRAM, IN A SANDBOX (cutbox-door.mjs). By AI agents, Wed Nov 11 2026. No macro, syntax, notation, axiom, sorry.
-/
import Derived.Test.YtocaimhmgpacmaaDoorRows
import GoSem.ClaimSeven
namespace Go.Proofs.YtocaimhmgpacmaaDoor
namespace Rows

/-- THE TIED CARD OF 'tombolalaw04.DecShows'. -/
def decShowsCard : Claim7 := { stood := { row := decShowsRow, standIns := [], harness := (true, "2fc54a654c64a3fa5eb3dda960ffccbe25ed8d99eebbd3494dbdfd3b66054995"), looks := false }, kinds := [], alts := [], laidByText := true, laidKinds := [.data, .pinned], laidTests := true, laidLooks := .later }
def DecShowsCardSaid : Prop := Claim7.holds Tryd.pinned (.plain (OpenSpec.ofChange decShowsSpec)) decShowsCard

/-- THE TIED CARD OF 'tombolalaw04.DecReads'. -/
def decReadsCard : Claim7 := { stood := { row := decReadsRow, standIns := [], harness := (true, "2fc54a654c64a3fa5eb3dda960ffccbe25ed8d99eebbd3494dbdfd3b66054995"), looks := false }, kinds := [], alts := [], laidByText := true, laidKinds := [.data, .pinned], laidTests := true, laidLooks := .later }
def DecReadsCardSaid : Prop := Claim7.holds Tryd.pinned (.plain (OpenSpec.ofChange decReadsSpec)) decReadsCard

/-- THE TIED CARD OF 'tombolalaw04.DecNames'. -/
def decNamesCard : Claim7 := { stood := { row := decNamesRow, standIns := [], harness := (true, "2fc54a654c64a3fa5eb3dda960ffccbe25ed8d99eebbd3494dbdfd3b66054995"), looks := false }, kinds := [], alts := [], laidByText := true, laidKinds := [.data, .pinned], laidTests := true, laidLooks := .later }
def DecNamesCardSaid : Prop := Claim7.holds Tryd.pinned (.plain (OpenSpec.ofChange decNamesSpec)) decNamesCard

/-- THE TIED CARD OF 'tombolalaw04.DecBack'. -/
def decBackCard : Claim7 := { stood := { row := decBackRow, standIns := [], harness := (true, "2fc54a654c64a3fa5eb3dda960ffccbe25ed8d99eebbd3494dbdfd3b66054995"), looks := false }, kinds := [], alts := [], laidByText := true, laidKinds := [.data, .pinned], laidTests := true, laidLooks := .later }
def DecBackCardSaid : Prop := Claim7.holds Tryd.pinned (.plain (OpenSpec.ofChange decBackSpec)) decBackCard

/-- THE TIED CARD OF 'tombolalaw04.DecOrder'. -/
def decOrderCard : Claim7 := { stood := { row := decOrderRow, standIns := [], harness := (true, "2fc54a654c64a3fa5eb3dda960ffccbe25ed8d99eebbd3494dbdfd3b66054995"), looks := false }, kinds := [], alts := [], laidByText := true, laidKinds := [.data, .pinned], laidTests := true, laidLooks := .later }
def DecOrderCardSaid : Prop := Claim7.holds Tryd.pinned (.plain (OpenSpec.ofChange decOrderSpec)) decOrderCard

/-- THE TIED CARD OF 'tombolalaw04.DecSmall'. -/
def decSmallCard : Claim7 := { stood := { row := decSmallRow, standIns := [], harness := (true, "2fc54a654c64a3fa5eb3dda960ffccbe25ed8d99eebbd3494dbdfd3b66054995"), looks := false }, kinds := [], alts := [], laidByText := true, laidKinds := [.data, .pinned], laidTests := true, laidLooks := .later }
def DecSmallCardSaid : Prop := Claim7.holds Tryd.pinned (.plain (OpenSpec.ofChange decSmallSpec)) decSmallCard

/-- THE TIED CARD OF 'tombolalaw04.DecRefuses'. -/
def decRefusesCard : Claim7 := { stood := { row := decRefusesRow, standIns := [], harness := (true, "2fc54a654c64a3fa5eb3dda960ffccbe25ed8d99eebbd3494dbdfd3b66054995"), looks := false }, kinds := [], alts := [], laidByText := true, laidKinds := [.data, .pinned], laidTests := true, laidLooks := .later }
def DecRefusesCardSaid : Prop := Claim7.holds Tryd.pinned (.plain (OpenSpec.ofChange decRefusesSpec)) decRefusesCard

/-- THE TIED CARD OF 'tombolalaw04.DecDigit'. -/
def decDigitCard : Claim7 := { stood := { row := decDigitRow, standIns := [], harness := (true, "2fc54a654c64a3fa5eb3dda960ffccbe25ed8d99eebbd3494dbdfd3b66054995"), looks := false }, kinds := [], alts := [], laidByText := true, laidKinds := [.data, .pinned], laidTests := true, laidLooks := .later }
def DecDigitCardSaid : Prop := Claim7.holds Tryd.pinned (.plain (OpenSpec.ofChange decDigitSpec)) decDigitCard

/-- THE TIED CARD OF 'tombolalaw04.DecMany'. -/
def decManyCard : Claim7 := { stood := { row := decManyRow, standIns := [], harness := (true, "2fc54a654c64a3fa5eb3dda960ffccbe25ed8d99eebbd3494dbdfd3b66054995"), looks := false }, kinds := [], alts := [], laidByText := true, laidKinds := [.data, .pinned], laidTests := true, laidLooks := .later }
def DecManyCardSaid : Prop := Claim7.holds Tryd.pinned (.plain (OpenSpec.ofChange decManySpec)) decManyCard

/-- THE SECOND FORM's CARD OF 'tombolalaw04.DecShows'. -/
def decShowsUptoCard : Claim7 := { stood := { row := decShowsUptoRow, standIns := [], harness := (true, "2fc54a654c64a3fa5eb3dda960ffccbe25ed8d99eebbd3494dbdfd3b66054995"), looks := false }, kinds := [], alts := [], laidByText := true, laidKinds := [.data, .pinned], laidTests := true, laidLooks := .later }
def DecShowsUptoCardSaid : Prop := Claim7.holds Tryd.pinned (.plain (OpenSpec.upto decShowsSpec)) decShowsUptoCard

/-- THE SECOND FORM's CARD OF 'tombolalaw04.DecReads'. -/
def decReadsUptoCard : Claim7 := { stood := { row := decReadsUptoRow, standIns := [], harness := (true, "2fc54a654c64a3fa5eb3dda960ffccbe25ed8d99eebbd3494dbdfd3b66054995"), looks := false }, kinds := [], alts := [], laidByText := true, laidKinds := [.data, .pinned], laidTests := true, laidLooks := .later }
def DecReadsUptoCardSaid : Prop := Claim7.holds Tryd.pinned (.plain (OpenSpec.upto decReadsSpec)) decReadsUptoCard

/-- THE SECOND FORM's CARD OF 'tombolalaw04.DecNames'. -/
def decNamesUptoCard : Claim7 := { stood := { row := decNamesUptoRow, standIns := [], harness := (true, "2fc54a654c64a3fa5eb3dda960ffccbe25ed8d99eebbd3494dbdfd3b66054995"), looks := false }, kinds := [], alts := [], laidByText := true, laidKinds := [.data, .pinned], laidTests := true, laidLooks := .later }
def DecNamesUptoCardSaid : Prop := Claim7.holds Tryd.pinned (.plain (OpenSpec.upto decNamesSpec)) decNamesUptoCard

/-- THE SECOND FORM's CARD OF 'tombolalaw04.DecBack'. -/
def decBackUptoCard : Claim7 := { stood := { row := decBackUptoRow, standIns := [], harness := (true, "2fc54a654c64a3fa5eb3dda960ffccbe25ed8d99eebbd3494dbdfd3b66054995"), looks := false }, kinds := [], alts := [], laidByText := true, laidKinds := [.data, .pinned], laidTests := true, laidLooks := .later }
def DecBackUptoCardSaid : Prop := Claim7.holds Tryd.pinned (.plain (OpenSpec.upto decBackSpec)) decBackUptoCard

/-- THE SECOND FORM's CARD OF 'tombolalaw04.DecOrder'. -/
def decOrderUptoCard : Claim7 := { stood := { row := decOrderUptoRow, standIns := [], harness := (true, "2fc54a654c64a3fa5eb3dda960ffccbe25ed8d99eebbd3494dbdfd3b66054995"), looks := false }, kinds := [], alts := [], laidByText := true, laidKinds := [.data, .pinned], laidTests := true, laidLooks := .later }
def DecOrderUptoCardSaid : Prop := Claim7.holds Tryd.pinned (.plain (OpenSpec.upto decOrderSpec)) decOrderUptoCard

/-- THE SECOND FORM's CARD OF 'tombolalaw04.DecSmall'. -/
def decSmallUptoCard : Claim7 := { stood := { row := decSmallUptoRow, standIns := [], harness := (true, "2fc54a654c64a3fa5eb3dda960ffccbe25ed8d99eebbd3494dbdfd3b66054995"), looks := false }, kinds := [], alts := [], laidByText := true, laidKinds := [.data, .pinned], laidTests := true, laidLooks := .later }
def DecSmallUptoCardSaid : Prop := Claim7.holds Tryd.pinned (.plain (OpenSpec.upto decSmallSpec)) decSmallUptoCard

/-- THE SECOND FORM's CARD OF 'tombolalaw04.DecRefuses'. -/
def decRefusesUptoCard : Claim7 := { stood := { row := decRefusesUptoRow, standIns := [], harness := (true, "2fc54a654c64a3fa5eb3dda960ffccbe25ed8d99eebbd3494dbdfd3b66054995"), looks := false }, kinds := [], alts := [], laidByText := true, laidKinds := [.data, .pinned], laidTests := true, laidLooks := .later }
def DecRefusesUptoCardSaid : Prop := Claim7.holds Tryd.pinned (.plain (OpenSpec.upto decRefusesSpec)) decRefusesUptoCard

/-- THE SECOND FORM's CARD OF 'tombolalaw04.DecDigit'. -/
def decDigitUptoCard : Claim7 := { stood := { row := decDigitUptoRow, standIns := [], harness := (true, "2fc54a654c64a3fa5eb3dda960ffccbe25ed8d99eebbd3494dbdfd3b66054995"), looks := false }, kinds := [], alts := [], laidByText := true, laidKinds := [.data, .pinned], laidTests := true, laidLooks := .later }
def DecDigitUptoCardSaid : Prop := Claim7.holds Tryd.pinned (.plain (OpenSpec.upto decDigitSpec)) decDigitUptoCard

/-- THE SECOND FORM's CARD OF 'tombolalaw04.DecMany'. -/
def decManyUptoCard : Claim7 := { stood := { row := decManyUptoRow, standIns := [], harness := (true, "2fc54a654c64a3fa5eb3dda960ffccbe25ed8d99eebbd3494dbdfd3b66054995"), looks := false }, kinds := [], alts := [], laidByText := true, laidKinds := [.data, .pinned], laidTests := true, laidLooks := .later }
def DecManyUptoCardSaid : Prop := Claim7.holds Tryd.pinned (.plain (OpenSpec.upto decManySpec)) decManyUptoCard
end Rows
end Go.Proofs.YtocaimhmgpacmaaDoor
