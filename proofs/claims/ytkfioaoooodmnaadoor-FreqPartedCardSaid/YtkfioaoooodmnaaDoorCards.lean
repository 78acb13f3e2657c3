/-
  DERIVED. GIVEN WITH THE SEED: THE CARDS: each row of YtkfioaoooodmnaaDoorRows.lean that lists a variable, with what it lists TIED to the program's text (the seventh form; the later family's looks); each row that meets fmt, with fmt's text TOLD by the authors' own Lean function (tested against real Go, not proved from fmt's source: count such statements apart). THE CARD IS WHAT COUNTS. Prove the row's statement (the work); the ties are given (YtkfioaoooodmnaaDoorTie.lean); close each card by the builder's one call (the guide's Derived/Test/ToyasCard.lean, 'card_holds'). Laid BY PROGRAM, IN A SANDBOX (cutbox-door.mjs). By AI agents, Wed Nov 11 2026. No macro, syntax, notation, axiom, sorry.
-/
import Derived.Test.YtkfioaoooodmnaaDoorRows
import GoSem.ClaimSeven
namespace Go.Proofs.YtkfioaoooodmnaaDoor
namespace Rows

/-- THE TIED CARD OF 'tombolalaw10.FreqTimes'. -/
def freqTimesCard : Claim7 := { stood := { row := freqTimesRow, standIns := [], harness := (true, "49a9f795f4a923b34391ce31f548d14a2872360bdc87bc99b6ea76c41817100b"), looks := false }, kinds := [], alts := [], laidByText := true, laidKinds := [.data, .pinned], laidTests := true, laidLooks := .later }
def FreqTimesCardSaid : Prop := Claim7.holds Tryd.pinned (.plain (OpenSpec.ofChange freqTimesSpec)) freqTimesCard

/-- THE TIED CARD OF 'tombolalaw10.FreqParted'. -/
def freqPartedCard : Claim7 := { stood := { row := freqPartedRow, standIns := [], harness := (true, "49a9f795f4a923b34391ce31f548d14a2872360bdc87bc99b6ea76c41817100b"), looks := false }, kinds := [], alts := [], laidByText := true, laidKinds := [.data, .pinned], laidTests := true, laidLooks := .later }
def FreqPartedCardSaid : Prop := Claim7.holds Tryd.pinned (.plain (OpenSpec.ofChange freqPartedSpec)) freqPartedCard

/-- THE TIED CARD OF 'tombolalaw10.FreqNames'. -/
def freqNamesCard : Claim7 := { stood := { row := freqNamesRow, standIns := [], harness := (true, "49a9f795f4a923b34391ce31f548d14a2872360bdc87bc99b6ea76c41817100b"), looks := false }, kinds := [], alts := [], laidByText := true, laidKinds := [.data, .pinned], laidTests := true, laidLooks := .later }
def FreqNamesCardSaid : Prop := Claim7.holds Tryd.pinned (.plain (OpenSpec.ofChange freqNamesSpec)) freqNamesCard

/-- THE TIED CARD OF 'tombolalaw10.FreqCost'. -/
def freqCostCard : Claim7 := { stood := { row := freqCostRow, standIns := [], harness := (true, "49a9f795f4a923b34391ce31f548d14a2872360bdc87bc99b6ea76c41817100b"), looks := false }, kinds := [], alts := [], laidByText := true, laidKinds := [.data, .pinned], laidTests := true, laidLooks := .later }
def FreqCostCardSaid : Prop := Claim7.holds Tryd.pinned (.plain (OpenSpec.ofChange freqCostSpec)) freqCostCard

/-- THE SECOND FORM's CARD OF 'tombolalaw10.FreqTimes'. -/
def freqTimesUptoCard : Claim7 := { stood := { row := freqTimesUptoRow, standIns := [], harness := (true, "49a9f795f4a923b34391ce31f548d14a2872360bdc87bc99b6ea76c41817100b"), looks := false }, kinds := [], alts := [], laidByText := true, laidKinds := [.data, .pinned], laidTests := true, laidLooks := .later }
def FreqTimesUptoCardSaid : Prop := Claim7.holds Tryd.pinned (.plain (OpenSpec.upto freqTimesSpec)) freqTimesUptoCard

/-- THE SECOND FORM's CARD OF 'tombolalaw10.FreqParted'. -/
def freqPartedUptoCard : Claim7 := { stood := { row := freqPartedUptoRow, standIns := [], harness := (true, "49a9f795f4a923b34391ce31f548d14a2872360bdc87bc99b6ea76c41817100b"), looks := false }, kinds := [], alts := [], laidByText := true, laidKinds := [.data, .pinned], laidTests := true, laidLooks := .later }
def FreqPartedUptoCardSaid : Prop := Claim7.holds Tryd.pinned (.plain (OpenSpec.upto freqPartedSpec)) freqPartedUptoCard

/-- THE SECOND FORM's CARD OF 'tombolalaw10.FreqNames'. -/
def freqNamesUptoCard : Claim7 := { stood := { row := freqNamesUptoRow, standIns := [], harness := (true, "49a9f795f4a923b34391ce31f548d14a2872360bdc87bc99b6ea76c41817100b"), looks := false }, kinds := [], alts := [], laidByText := true, laidKinds := [.data, .pinned], laidTests := true, laidLooks := .later }
def FreqNamesUptoCardSaid : Prop := Claim7.holds Tryd.pinned (.plain (OpenSpec.upto freqNamesSpec)) freqNamesUptoCard

/-- THE SECOND FORM's CARD OF 'tombolalaw10.FreqCost'. -/
def freqCostUptoCard : Claim7 := { stood := { row := freqCostUptoRow, standIns := [], harness := (true, "49a9f795f4a923b34391ce31f548d14a2872360bdc87bc99b6ea76c41817100b"), looks := false }, kinds := [], alts := [], laidByText := true, laidKinds := [.data, .pinned], laidTests := true, laidLooks := .later }
def FreqCostUptoCardSaid : Prop := Claim7.holds Tryd.pinned (.plain (OpenSpec.upto freqCostSpec)) freqCostUptoCard
end Rows
end Go.Proofs.YtkfioaoooodmnaaDoor
