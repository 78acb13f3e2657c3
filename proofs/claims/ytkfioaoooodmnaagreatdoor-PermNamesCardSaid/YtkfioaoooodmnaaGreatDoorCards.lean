/-
  DERIVED. GIVEN WITH THE SEED: THE CARDS: each row of YtkfioaoooodmnaaGreatDoorRows.lean that lists a variable, with what it lists TIED to the program's text (the seventh form; the later family's looks); each row that meets fmt, with fmt's text TOLD by the authors' own Lean function (tested against real Go, not proved from fmt's source: count such statements apart). THE CARD IS WHAT COUNTS. Prove the row's statement (the work); the ties are given (YtkfioaoooodmnaaGreatDoorTie.lean); close each card by the builder's one call (the guide's Derived/Test/ToyasCard.lean, 'card_holds'). Laid BY PROGRAM, IN A SANDBOX (cutbox-door.mjs). By AI agents, Wed Nov 11 2026. No macro, syntax, notation, axiom, sorry.
-/
import Derived.Test.YtkfioaoooodmnaaGreatDoorRows
import GoSem.ClaimSeven
namespace Go.Proofs.YtkfioaoooodmnaaGreatDoor
namespace Rows

/-- THE TIED CARD OF 'tombolalaw10.FreqTells'. -/
def freqTellsCard : Claim7 := { stood := { row := freqTellsRow, standIns := [], harness := (true, "36612d88373e22676905ebcdb6517f6c212d651d5137691446c96f343540cd63"), looks := false }, kinds := [], alts := [], laidByText := true, laidKinds := [.data, .pinned], laidTests := true, laidLooks := .later }
def FreqTellsCardSaid : Prop := Claim7.holds Tryz.pinned (.plain (OpenSpec.ofChange freqTellsSpec)) freqTellsCard

/-- THE TIED CARD OF 'tombolalaw10.FreqDraws'. -/
def freqDrawsCard : Claim7 := { stood := { row := freqDrawsRow, standIns := [], harness := (true, "36612d88373e22676905ebcdb6517f6c212d651d5137691446c96f343540cd63"), looks := false }, kinds := [], alts := [], laidByText := true, laidKinds := [.data, .pinned], laidTests := true, laidLooks := .later }
def FreqDrawsCardSaid : Prop := Claim7.holds Tryz.pinned (.plain (OpenSpec.ofChange freqDrawsSpec)) freqDrawsCard

/-- THE TIED CARD OF 'tombolalaw10.FreqShares'. -/
def freqSharesCard : Claim7 := { stood := { row := freqSharesRow, standIns := [], harness := (true, "36612d88373e22676905ebcdb6517f6c212d651d5137691446c96f343540cd63"), looks := false }, kinds := [], alts := [], laidByText := true, laidKinds := [.data, .pinned], laidTests := true, laidLooks := .later }
def FreqSharesCardSaid : Prop := Claim7.holds Tryz.pinned (.plain (OpenSpec.ofChange freqSharesSpec)) freqSharesCard

/-- THE TIED CARD OF 'tombolalaw12.PermRows'. -/
def permRowsCard : Claim7 := { stood := { row := permRowsRow, standIns := [], harness := (true, "36612d88373e22676905ebcdb6517f6c212d651d5137691446c96f343540cd63"), looks := false }, kinds := [], alts := [], laidByText := true, laidKinds := [.data, .pinned], laidTests := true, laidLooks := .later }
def PermRowsCardSaid : Prop := Claim7.holds Tryz.pinned (.plain (OpenSpec.ofChange permRowsSpec)) permRowsCard

/-- THE TIED CARD OF 'tombolalaw12.PermDraws'. -/
def permDrawsCard : Claim7 := { stood := { row := permDrawsRow, standIns := [], harness := (true, "36612d88373e22676905ebcdb6517f6c212d651d5137691446c96f343540cd63"), looks := false }, kinds := [], alts := [], laidByText := true, laidKinds := [.data, .pinned], laidTests := true, laidLooks := .later }
def PermDrawsCardSaid : Prop := Claim7.holds Tryz.pinned (.plain (OpenSpec.ofChange permDrawsSpec)) permDrawsCard

/-- THE TIED CARD OF 'tombolalaw12.PermNames'. -/
def permNamesCard : Claim7 := { stood := { row := permNamesRow, standIns := [], harness := (true, "36612d88373e22676905ebcdb6517f6c212d651d5137691446c96f343540cd63"), looks := false }, kinds := [], alts := [], laidByText := true, laidKinds := [.data, .pinned], laidTests := true, laidLooks := .later }
def PermNamesCardSaid : Prop := Claim7.holds Tryz.pinned (.plain (OpenSpec.ofChange permNamesSpec)) permNamesCard

/-- THE TIED CARD OF 'tombolalaw12.PermBack'. -/
def permBackCard : Claim7 := { stood := { row := permBackRow, standIns := [], harness := (true, "36612d88373e22676905ebcdb6517f6c212d651d5137691446c96f343540cd63"), looks := false }, kinds := [], alts := [], laidByText := true, laidKinds := [.data, .pinned], laidTests := true, laidLooks := .later }
def PermBackCardSaid : Prop := Claim7.holds Tryz.pinned (.plain (OpenSpec.ofChange permBackSpec)) permBackCard

/-- THE TIED CARD OF 'tombolalaw12.PermRow'. -/
def permRowCard : Claim7 := { stood := { row := permRowRow, standIns := [], harness := (true, "36612d88373e22676905ebcdb6517f6c212d651d5137691446c96f343540cd63"), looks := false }, kinds := [], alts := [], laidByText := true, laidKinds := [.data, .pinned], laidTests := true, laidLooks := .later }
def PermRowCardSaid : Prop := Claim7.holds Tryz.pinned (.plain (OpenSpec.ofChange permRowSpec)) permRowCard

/-- THE TIED CARD OF 'tombolalaw12.PermEnds'. -/
def permEndsCard : Claim7 := { stood := { row := permEndsRow, standIns := [], harness := (true, "36612d88373e22676905ebcdb6517f6c212d651d5137691446c96f343540cd63"), looks := false }, kinds := [], alts := [], laidByText := true, laidKinds := [.data, .pinned], laidTests := true, laidLooks := .later }
def PermEndsCardSaid : Prop := Claim7.holds Tryz.pinned (.plain (OpenSpec.ofChange permEndsSpec)) permEndsCard

/-- THE TIED CARD OF 'tombolalaw12.PermDrawn'. -/
def permDrawnCard : Claim7 := { stood := { row := permDrawnRow, standIns := [], harness := (true, "36612d88373e22676905ebcdb6517f6c212d651d5137691446c96f343540cd63"), looks := false }, kinds := [], alts := [], laidByText := true, laidKinds := [.data, .pinned], laidTests := true, laidLooks := .later }
def PermDrawnCardSaid : Prop := Claim7.holds Tryz.pinned (.plain (OpenSpec.ofChange permDrawnSpec)) permDrawnCard

/-- THE SECOND FORM's CARD OF 'tombolalaw10.FreqTells'. -/
def freqTellsUptoCard : Claim7 := { stood := { row := freqTellsUptoRow, standIns := [], harness := (true, "36612d88373e22676905ebcdb6517f6c212d651d5137691446c96f343540cd63"), looks := false }, kinds := [], alts := [], laidByText := true, laidKinds := [.data, .pinned], laidTests := true, laidLooks := .later }
def FreqTellsUptoCardSaid : Prop := Claim7.holds Tryz.pinned (.plain (OpenSpec.upto freqTellsSpec)) freqTellsUptoCard

/-- THE SECOND FORM's CARD OF 'tombolalaw10.FreqDraws'. -/
def freqDrawsUptoCard : Claim7 := { stood := { row := freqDrawsUptoRow, standIns := [], harness := (true, "36612d88373e22676905ebcdb6517f6c212d651d5137691446c96f343540cd63"), looks := false }, kinds := [], alts := [], laidByText := true, laidKinds := [.data, .pinned], laidTests := true, laidLooks := .later }
def FreqDrawsUptoCardSaid : Prop := Claim7.holds Tryz.pinned (.plain (OpenSpec.upto freqDrawsSpec)) freqDrawsUptoCard

/-- THE SECOND FORM's CARD OF 'tombolalaw10.FreqShares'. -/
def freqSharesUptoCard : Claim7 := { stood := { row := freqSharesUptoRow, standIns := [], harness := (true, "36612d88373e22676905ebcdb6517f6c212d651d5137691446c96f343540cd63"), looks := false }, kinds := [], alts := [], laidByText := true, laidKinds := [.data, .pinned], laidTests := true, laidLooks := .later }
def FreqSharesUptoCardSaid : Prop := Claim7.holds Tryz.pinned (.plain (OpenSpec.upto freqSharesSpec)) freqSharesUptoCard

/-- THE SECOND FORM's CARD OF 'tombolalaw12.PermRows'. -/
def permRowsUptoCard : Claim7 := { stood := { row := permRowsUptoRow, standIns := [], harness := (true, "36612d88373e22676905ebcdb6517f6c212d651d5137691446c96f343540cd63"), looks := false }, kinds := [], alts := [], laidByText := true, laidKinds := [.data, .pinned], laidTests := true, laidLooks := .later }
def PermRowsUptoCardSaid : Prop := Claim7.holds Tryz.pinned (.plain (OpenSpec.upto permRowsSpec)) permRowsUptoCard

/-- THE SECOND FORM's CARD OF 'tombolalaw12.PermDraws'. -/
def permDrawsUptoCard : Claim7 := { stood := { row := permDrawsUptoRow, standIns := [], harness := (true, "36612d88373e22676905ebcdb6517f6c212d651d5137691446c96f343540cd63"), looks := false }, kinds := [], alts := [], laidByText := true, laidKinds := [.data, .pinned], laidTests := true, laidLooks := .later }
def PermDrawsUptoCardSaid : Prop := Claim7.holds Tryz.pinned (.plain (OpenSpec.upto permDrawsSpec)) permDrawsUptoCard

/-- THE SECOND FORM's CARD OF 'tombolalaw12.PermNames'. -/
def permNamesUptoCard : Claim7 := { stood := { row := permNamesUptoRow, standIns := [], harness := (true, "36612d88373e22676905ebcdb6517f6c212d651d5137691446c96f343540cd63"), looks := false }, kinds := [], alts := [], laidByText := true, laidKinds := [.data, .pinned], laidTests := true, laidLooks := .later }
def PermNamesUptoCardSaid : Prop := Claim7.holds Tryz.pinned (.plain (OpenSpec.upto permNamesSpec)) permNamesUptoCard

/-- THE SECOND FORM's CARD OF 'tombolalaw12.PermBack'. -/
def permBackUptoCard : Claim7 := { stood := { row := permBackUptoRow, standIns := [], harness := (true, "36612d88373e22676905ebcdb6517f6c212d651d5137691446c96f343540cd63"), looks := false }, kinds := [], alts := [], laidByText := true, laidKinds := [.data, .pinned], laidTests := true, laidLooks := .later }
def PermBackUptoCardSaid : Prop := Claim7.holds Tryz.pinned (.plain (OpenSpec.upto permBackSpec)) permBackUptoCard

/-- THE SECOND FORM's CARD OF 'tombolalaw12.PermRow'. -/
def permRowUptoCard : Claim7 := { stood := { row := permRowUptoRow, standIns := [], harness := (true, "36612d88373e22676905ebcdb6517f6c212d651d5137691446c96f343540cd63"), looks := false }, kinds := [], alts := [], laidByText := true, laidKinds := [.data, .pinned], laidTests := true, laidLooks := .later }
def PermRowUptoCardSaid : Prop := Claim7.holds Tryz.pinned (.plain (OpenSpec.upto permRowSpec)) permRowUptoCard

/-- THE SECOND FORM's CARD OF 'tombolalaw12.PermEnds'. -/
def permEndsUptoCard : Claim7 := { stood := { row := permEndsUptoRow, standIns := [], harness := (true, "36612d88373e22676905ebcdb6517f6c212d651d5137691446c96f343540cd63"), looks := false }, kinds := [], alts := [], laidByText := true, laidKinds := [.data, .pinned], laidTests := true, laidLooks := .later }
def PermEndsUptoCardSaid : Prop := Claim7.holds Tryz.pinned (.plain (OpenSpec.upto permEndsSpec)) permEndsUptoCard

/-- THE SECOND FORM's CARD OF 'tombolalaw12.PermDrawn'. -/
def permDrawnUptoCard : Claim7 := { stood := { row := permDrawnUptoRow, standIns := [], harness := (true, "36612d88373e22676905ebcdb6517f6c212d651d5137691446c96f343540cd63"), looks := false }, kinds := [], alts := [], laidByText := true, laidKinds := [.data, .pinned], laidTests := true, laidLooks := .later }
def PermDrawnUptoCardSaid : Prop := Claim7.holds Tryz.pinned (.plain (OpenSpec.upto permDrawnSpec)) permDrawnUptoCard
end Rows
end Go.Proofs.YtkfioaoooodmnaaGreatDoor
