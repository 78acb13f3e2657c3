/-
  DERIVED. GIVEN WITH THE SEED: THE CARDS: each row of YtefeglkbikcjeaaGreatDoorRows.lean that lists a variable, with what it lists TIED to the program's text (the seventh form; the later family's looks); each row that meets fmt, with fmt's text TOLD by the authors' own Lean function (tested against real Go, not proved from fmt's source: count such statements apart). THE CARD IS WHAT COUNTS. Prove the row's statement (the work); the ties are given (YtefeglkbikcjeaaGreatDoorTie.lean); close each card by the builder's one call (the guide's Derived/Test/ToyasCard.lean, 'card_holds'). Laid BY PROGRAM, IN A SANDBOX (cutbox-door.mjs). By AI agents, Wed Nov 11 2026. No macro, syntax, notation, axiom, sorry.
-/
import Derived.Test.YtefeglkbikcjeaaGreatDoorRows
import GoSem.ClaimSeven
namespace Go.Proofs.YtefeglkbikcjeaaGreatDoor
namespace Rows

/-- THE TIED CARD OF 'tombolalaw05.WholeSums'. -/
def wholeSumsCard : Claim7 := { stood := { row := wholeSumsRow, standIns := [], harness := (true, "75dfc00d911ad97936dc00ec0ddd1fd334b6ab1e6c3cd79c68dfa0a8a60a976d"), looks := false }, kinds := [], alts := [], laidByText := true, laidKinds := [.data, .pinned], laidTests := true, laidLooks := .later }
def WholeSumsCardSaid : Prop := Claim7.holds Tryz.pinned (.plain (OpenSpec.ofChange wholeSumsSpec)) wholeSumsCard

/-- THE TIED CARD OF 'tombolalaw24.MassEven'. -/
def massEvenCard : Claim7 := { stood := { row := massEvenRow, standIns := [], harness := (true, "75dfc00d911ad97936dc00ec0ddd1fd334b6ab1e6c3cd79c68dfa0a8a60a976d"), looks := false }, kinds := [], alts := [], laidByText := true, laidKinds := [.data, .pinned], laidTests := true, laidLooks := .later }
def MassEvenCardSaid : Prop := Claim7.holds Tryz.pinned (.plain (OpenSpec.ofChange massEvenSpec)) massEvenCard

/-- THE TIED CARD OF 'tombolalaw24.MassOne'. -/
def massOneCard : Claim7 := { stood := { row := massOneRow, standIns := [], harness := (true, "75dfc00d911ad97936dc00ec0ddd1fd334b6ab1e6c3cd79c68dfa0a8a60a976d"), looks := false }, kinds := [], alts := [], laidByText := true, laidKinds := [.data, .pinned], laidTests := true, laidLooks := .later }
def MassOneCardSaid : Prop := Claim7.holds Tryz.pinned (.plain (OpenSpec.ofChange massOneSpec)) massOneCard

/-- THE TIED CARD OF 'tombolalaw24.MassNames'. -/
def massNamesCard : Claim7 := { stood := { row := massNamesRow, standIns := [], harness := (true, "75dfc00d911ad97936dc00ec0ddd1fd334b6ab1e6c3cd79c68dfa0a8a60a976d"), looks := false }, kinds := [], alts := [], laidByText := true, laidKinds := [.data, .pinned], laidTests := true, laidLooks := .later }
def MassNamesCardSaid : Prop := Claim7.holds Tryz.pinned (.plain (OpenSpec.ofChange massNamesSpec)) massNamesCard

/-- THE TIED CARD OF 'tombolalaw24.MassTotals'. -/
def massTotalsCard : Claim7 := { stood := { row := massTotalsRow, standIns := [], harness := (true, "75dfc00d911ad97936dc00ec0ddd1fd334b6ab1e6c3cd79c68dfa0a8a60a976d"), looks := false }, kinds := [], alts := [], laidByText := true, laidKinds := [.data, .pinned], laidTests := true, laidLooks := .later }
def MassTotalsCardSaid : Prop := Claim7.holds Tryz.pinned (.plain (OpenSpec.ofChange massTotalsSpec)) massTotalsCard

/-- THE SECOND FORM's CARD OF 'tombolalaw05.WholeSums'. -/
def wholeSumsUptoCard : Claim7 := { stood := { row := wholeSumsUptoRow, standIns := [], harness := (true, "75dfc00d911ad97936dc00ec0ddd1fd334b6ab1e6c3cd79c68dfa0a8a60a976d"), looks := false }, kinds := [], alts := [], laidByText := true, laidKinds := [.data, .pinned], laidTests := true, laidLooks := .later }
def WholeSumsUptoCardSaid : Prop := Claim7.holds Tryz.pinned (.plain (OpenSpec.upto wholeSumsSpec)) wholeSumsUptoCard

/-- THE SECOND FORM's CARD OF 'tombolalaw24.MassEven'. -/
def massEvenUptoCard : Claim7 := { stood := { row := massEvenUptoRow, standIns := [], harness := (true, "75dfc00d911ad97936dc00ec0ddd1fd334b6ab1e6c3cd79c68dfa0a8a60a976d"), looks := false }, kinds := [], alts := [], laidByText := true, laidKinds := [.data, .pinned], laidTests := true, laidLooks := .later }
def MassEvenUptoCardSaid : Prop := Claim7.holds Tryz.pinned (.plain (OpenSpec.upto massEvenSpec)) massEvenUptoCard

/-- THE SECOND FORM's CARD OF 'tombolalaw24.MassOne'. -/
def massOneUptoCard : Claim7 := { stood := { row := massOneUptoRow, standIns := [], harness := (true, "75dfc00d911ad97936dc00ec0ddd1fd334b6ab1e6c3cd79c68dfa0a8a60a976d"), looks := false }, kinds := [], alts := [], laidByText := true, laidKinds := [.data, .pinned], laidTests := true, laidLooks := .later }
def MassOneUptoCardSaid : Prop := Claim7.holds Tryz.pinned (.plain (OpenSpec.upto massOneSpec)) massOneUptoCard

/-- THE SECOND FORM's CARD OF 'tombolalaw24.MassNames'. -/
def massNamesUptoCard : Claim7 := { stood := { row := massNamesUptoRow, standIns := [], harness := (true, "75dfc00d911ad97936dc00ec0ddd1fd334b6ab1e6c3cd79c68dfa0a8a60a976d"), looks := false }, kinds := [], alts := [], laidByText := true, laidKinds := [.data, .pinned], laidTests := true, laidLooks := .later }
def MassNamesUptoCardSaid : Prop := Claim7.holds Tryz.pinned (.plain (OpenSpec.upto massNamesSpec)) massNamesUptoCard

/-- THE SECOND FORM's CARD OF 'tombolalaw24.MassTotals'. -/
def massTotalsUptoCard : Claim7 := { stood := { row := massTotalsUptoRow, standIns := [], harness := (true, "75dfc00d911ad97936dc00ec0ddd1fd334b6ab1e6c3cd79c68dfa0a8a60a976d"), looks := false }, kinds := [], alts := [], laidByText := true, laidKinds := [.data, .pinned], laidTests := true, laidLooks := .later }
def MassTotalsUptoCardSaid : Prop := Claim7.holds Tryz.pinned (.plain (OpenSpec.upto massTotalsSpec)) massTotalsUptoCard
end Rows
end Go.Proofs.YtefeglkbikcjeaaGreatDoor
