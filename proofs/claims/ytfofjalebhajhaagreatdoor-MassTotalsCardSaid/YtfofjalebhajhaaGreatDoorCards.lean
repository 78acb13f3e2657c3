/-
  DERIVED. GIVEN WITH THE SEED: THE CARDS: each row of YtfofjalebhajhaaGreatDoorRows.lean that lists a variable, with what it lists TIED to the program's text (the seventh form; the later family's looks); each row that meets fmt, with fmt's text TOLD by the authors' own Lean function (tested against real Go, not proved from fmt's source: count such statements apart). THE CARD IS WHAT COUNTS. Prove the row's statement (the work); the ties are given (YtfofjalebhajhaaGreatDoorTie.lean); close each card by the builder's one call (the guide's Derived/Test/ToyasCard.lean, 'card_holds'). Laid BY PROGRAM, IN A SANDBOX (cutbox-door.mjs). By AI agents, Wed Nov 11 2026. No macro, syntax, notation, axiom, sorry.
-/
import Derived.Test.YtfofjalebhajhaaGreatDoorRows
import GoSem.ClaimSeven
namespace Go.Proofs.YtfofjalebhajhaaGreatDoor
namespace Rows

/-- THE TIED CARD OF 'tombolalaw24.MassEven'. -/
def massEvenCard : Claim7 := { stood := { row := massEvenRow, standIns := [], harness := (true, "c83c3258cdf779520d194e594e35ab3785a6dd5d97fb0348adef7b5770bea839"), looks := false }, kinds := [], alts := [], laidByText := true, laidKinds := [.data, .pinned], laidTests := true, laidLooks := .later }
def MassEvenCardSaid : Prop := Claim7.holds Tryz.pinned (.plain (OpenSpec.ofChange massEvenSpec)) massEvenCard

/-- THE TIED CARD OF 'tombolalaw24.MassOne'. -/
def massOneCard : Claim7 := { stood := { row := massOneRow, standIns := [], harness := (true, "c83c3258cdf779520d194e594e35ab3785a6dd5d97fb0348adef7b5770bea839"), looks := false }, kinds := [], alts := [], laidByText := true, laidKinds := [.data, .pinned], laidTests := true, laidLooks := .later }
def MassOneCardSaid : Prop := Claim7.holds Tryz.pinned (.plain (OpenSpec.ofChange massOneSpec)) massOneCard

/-- THE TIED CARD OF 'tombolalaw24.MassNames'. -/
def massNamesCard : Claim7 := { stood := { row := massNamesRow, standIns := [], harness := (true, "c83c3258cdf779520d194e594e35ab3785a6dd5d97fb0348adef7b5770bea839"), looks := false }, kinds := [], alts := [], laidByText := true, laidKinds := [.data, .pinned], laidTests := true, laidLooks := .later }
def MassNamesCardSaid : Prop := Claim7.holds Tryz.pinned (.plain (OpenSpec.ofChange massNamesSpec)) massNamesCard

/-- THE TIED CARD OF 'tombolalaw24.MassTotals'. -/
def massTotalsCard : Claim7 := { stood := { row := massTotalsRow, standIns := [], harness := (true, "c83c3258cdf779520d194e594e35ab3785a6dd5d97fb0348adef7b5770bea839"), looks := false }, kinds := [], alts := [], laidByText := true, laidKinds := [.data, .pinned], laidTests := true, laidLooks := .later }
def MassTotalsCardSaid : Prop := Claim7.holds Tryz.pinned (.plain (OpenSpec.ofChange massTotalsSpec)) massTotalsCard

/-- THE SECOND FORM's CARD OF 'tombolalaw24.MassEven'. -/
def massEvenUptoCard : Claim7 := { stood := { row := massEvenUptoRow, standIns := [], harness := (true, "c83c3258cdf779520d194e594e35ab3785a6dd5d97fb0348adef7b5770bea839"), looks := false }, kinds := [], alts := [], laidByText := true, laidKinds := [.data, .pinned], laidTests := true, laidLooks := .later }
def MassEvenUptoCardSaid : Prop := Claim7.holds Tryz.pinned (.plain (OpenSpec.upto massEvenSpec)) massEvenUptoCard

/-- THE SECOND FORM's CARD OF 'tombolalaw24.MassOne'. -/
def massOneUptoCard : Claim7 := { stood := { row := massOneUptoRow, standIns := [], harness := (true, "c83c3258cdf779520d194e594e35ab3785a6dd5d97fb0348adef7b5770bea839"), looks := false }, kinds := [], alts := [], laidByText := true, laidKinds := [.data, .pinned], laidTests := true, laidLooks := .later }
def MassOneUptoCardSaid : Prop := Claim7.holds Tryz.pinned (.plain (OpenSpec.upto massOneSpec)) massOneUptoCard

/-- THE SECOND FORM's CARD OF 'tombolalaw24.MassNames'. -/
def massNamesUptoCard : Claim7 := { stood := { row := massNamesUptoRow, standIns := [], harness := (true, "c83c3258cdf779520d194e594e35ab3785a6dd5d97fb0348adef7b5770bea839"), looks := false }, kinds := [], alts := [], laidByText := true, laidKinds := [.data, .pinned], laidTests := true, laidLooks := .later }
def MassNamesUptoCardSaid : Prop := Claim7.holds Tryz.pinned (.plain (OpenSpec.upto massNamesSpec)) massNamesUptoCard

/-- THE SECOND FORM's CARD OF 'tombolalaw24.MassTotals'. -/
def massTotalsUptoCard : Claim7 := { stood := { row := massTotalsUptoRow, standIns := [], harness := (true, "c83c3258cdf779520d194e594e35ab3785a6dd5d97fb0348adef7b5770bea839"), looks := false }, kinds := [], alts := [], laidByText := true, laidKinds := [.data, .pinned], laidTests := true, laidLooks := .later }
def MassTotalsUptoCardSaid : Prop := Claim7.holds Tryz.pinned (.plain (OpenSpec.upto massTotalsSpec)) massTotalsUptoCard
end Rows
end Go.Proofs.YtfofjalebhajhaaGreatDoor
