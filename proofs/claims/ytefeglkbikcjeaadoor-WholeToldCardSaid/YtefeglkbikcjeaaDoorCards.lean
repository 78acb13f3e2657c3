/-
  DERIVED. GIVEN WITH THE SEED: THE CARDS: each row of YtefeglkbikcjeaaDoorRows.lean that lists a variable, with what it lists TIED to the program's text (the seventh form; the later family's looks); each row that meets fmt, with fmt's text TOLD by the authors' own Lean function (tested against real Go, not proved from fmt's source: count such statements apart). THE CARD IS WHAT COUNTS. Prove the row's statement (the work); the ties are given (YtefeglkbikcjeaaDoorTie.lean); close each card by the builder's one call (the guide's Derived/Test/ToyasCard.lean, 'card_holds'). Laid BY PROGRAM, IN A SANDBOX (cutbox-door.mjs). By AI agents, Wed Nov 11 2026. No macro, syntax, notation, axiom, sorry.
-/
import Derived.Test.YtefeglkbikcjeaaDoorRows
import GoSem.ClaimSeven
namespace Go.Proofs.YtefeglkbikcjeaaDoor
namespace Rows

/-- THE TIED CARD OF 'tombolalaw05.WholeNames'. -/
def wholeNamesCard : Claim7 := { stood := { row := wholeNamesRow, standIns := [], harness := (true, "08f1535c309ca2bdc0f84b5b5c03b471976a2849f9df012ee608d0ce3271c504"), looks := false }, kinds := [], alts := [], laidByText := true, laidKinds := [.data, .pinned], laidTests := true, laidLooks := .later }
def WholeNamesCardSaid : Prop := Claim7.holds Tryd.pinned (.plain (OpenSpec.ofChange wholeNamesSpec)) wholeNamesCard

/-- THE TIED CARD OF 'tombolalaw05.WholeTold'. -/
def wholeToldCard : Claim7 := { stood := { row := wholeToldRow, standIns := [], harness := (true, "08f1535c309ca2bdc0f84b5b5c03b471976a2849f9df012ee608d0ce3271c504"), looks := false }, kinds := [], alts := [], laidByText := true, laidKinds := [.data, .pinned], laidTests := true, laidLooks := .later }
def WholeToldCardSaid : Prop := Claim7.holds Tryd.pinned (.plain (OpenSpec.ofChange wholeToldSpec)) wholeToldCard

/-- THE TIED CARD OF 'tombolalaw10.FreqNames'. -/
def freqNamesCard : Claim7 := { stood := { row := freqNamesRow, standIns := [], harness := (true, "08f1535c309ca2bdc0f84b5b5c03b471976a2849f9df012ee608d0ce3271c504"), looks := false }, kinds := [], alts := [], laidByText := true, laidKinds := [.data, .pinned], laidTests := true, laidLooks := .later }
def FreqNamesCardSaid : Prop := Claim7.holds Tryd.pinned (.plain (OpenSpec.ofChange freqNamesSpec)) freqNamesCard

/-- THE SECOND FORM's CARD OF 'tombolalaw05.WholeNames'. -/
def wholeNamesUptoCard : Claim7 := { stood := { row := wholeNamesUptoRow, standIns := [], harness := (true, "08f1535c309ca2bdc0f84b5b5c03b471976a2849f9df012ee608d0ce3271c504"), looks := false }, kinds := [], alts := [], laidByText := true, laidKinds := [.data, .pinned], laidTests := true, laidLooks := .later }
def WholeNamesUptoCardSaid : Prop := Claim7.holds Tryd.pinned (.plain (OpenSpec.upto wholeNamesSpec)) wholeNamesUptoCard

/-- THE SECOND FORM's CARD OF 'tombolalaw05.WholeTold'. -/
def wholeToldUptoCard : Claim7 := { stood := { row := wholeToldUptoRow, standIns := [], harness := (true, "08f1535c309ca2bdc0f84b5b5c03b471976a2849f9df012ee608d0ce3271c504"), looks := false }, kinds := [], alts := [], laidByText := true, laidKinds := [.data, .pinned], laidTests := true, laidLooks := .later }
def WholeToldUptoCardSaid : Prop := Claim7.holds Tryd.pinned (.plain (OpenSpec.upto wholeToldSpec)) wholeToldUptoCard

/-- THE SECOND FORM's CARD OF 'tombolalaw10.FreqNames'. -/
def freqNamesUptoCard : Claim7 := { stood := { row := freqNamesUptoRow, standIns := [], harness := (true, "08f1535c309ca2bdc0f84b5b5c03b471976a2849f9df012ee608d0ce3271c504"), looks := false }, kinds := [], alts := [], laidByText := true, laidKinds := [.data, .pinned], laidTests := true, laidLooks := .later }
def FreqNamesUptoCardSaid : Prop := Claim7.holds Tryd.pinned (.plain (OpenSpec.upto freqNamesSpec)) freqNamesUptoCard
end Rows
end Go.Proofs.YtefeglkbikcjeaaDoor
