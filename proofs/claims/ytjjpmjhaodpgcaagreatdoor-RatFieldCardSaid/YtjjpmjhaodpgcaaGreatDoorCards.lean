/-
  DERIVED. GIVEN WITH THE SEED: THE CARDS: each row of YtjjpmjhaodpgcaaGreatDoorRows.lean that lists a variable, with what it lists TIED to the program's text (the seventh form; the later family's looks); each row that meets fmt, with fmt's text TOLD by the authors' own Lean function (tested against real Go, not proved from fmt's source: count such statements apart). THE CARD IS WHAT COUNTS. Prove the row's statement (the work); the ties are given (YtjjpmjhaodpgcaaGreatDoorTie.lean); close each card by the builder's one call (the guide's Derived/Test/ToyasCard.lean, 'card_holds'). Laid BY PROGRAM, IN A SANDBOX (cutbox-door.mjs). By AI agents, Wed Nov 11 2026. No macro, syntax, notation, axiom, sorry.
-/
import Derived.Test.YtjjpmjhaodpgcaaGreatDoorRows
import GoSem.ClaimSeven
namespace Go.Proofs.YtjjpmjhaodpgcaaGreatDoor
namespace Rows

/-- THE TIED CARD OF 'tombolalaw06.RatMakes'. -/
def ratMakesCard : Claim7 := { stood := { row := ratMakesRow, standIns := [], harness := (true, "9107e120c209c4a8e69af479eb8913d8b40c18f7d5864b477bdf38f738016ebd"), looks := false }, kinds := [], alts := [], laidByText := true, laidKinds := [.data, .pinned], laidTests := true, laidLooks := .later }
def RatMakesCardSaid : Prop := Claim7.holds Tryz.pinned (.plain (OpenSpec.ofChange ratMakesSpec)) ratMakesCard

/-- THE TIED CARD OF 'tombolalaw06.RatTexts'. -/
def ratTextsCard : Claim7 := { stood := { row := ratTextsRow, standIns := [], harness := (true, "9107e120c209c4a8e69af479eb8913d8b40c18f7d5864b477bdf38f738016ebd"), looks := false }, kinds := [], alts := [], laidByText := true, laidKinds := [.data, .pinned], laidTests := true, laidLooks := .later }
def RatTextsCardSaid : Prop := Claim7.holds Tryz.pinned (.plain (OpenSpec.ofChange ratTextsSpec)) ratTextsCard

/-- THE TIED CARD OF 'tombolalaw06.RatLowest'. -/
def ratLowestCard : Claim7 := { stood := { row := ratLowestRow, standIns := [], harness := (true, "9107e120c209c4a8e69af479eb8913d8b40c18f7d5864b477bdf38f738016ebd"), looks := false }, kinds := [], alts := [], laidByText := true, laidKinds := [.data, .pinned], laidTests := true, laidLooks := .later }
def RatLowestCardSaid : Prop := Claim7.holds Tryz.pinned (.plain (OpenSpec.ofChange ratLowestSpec)) ratLowestCard

/-- THE TIED CARD OF 'tombolalaw06.RatBack'. -/
def ratBackCard : Claim7 := { stood := { row := ratBackRow, standIns := [], harness := (true, "9107e120c209c4a8e69af479eb8913d8b40c18f7d5864b477bdf38f738016ebd"), looks := false }, kinds := [], alts := [], laidByText := true, laidKinds := [.data, .pinned], laidTests := true, laidLooks := .later }
def RatBackCardSaid : Prop := Claim7.holds Tryz.pinned (.plain (OpenSpec.ofChange ratBackSpec)) ratBackCard

/-- THE TIED CARD OF 'tombolalaw06.RatHalves'. -/
def ratHalvesCard : Claim7 := { stood := { row := ratHalvesRow, standIns := [], harness := (true, "9107e120c209c4a8e69af479eb8913d8b40c18f7d5864b477bdf38f738016ebd"), looks := false }, kinds := [], alts := [], laidByText := true, laidKinds := [.data, .pinned], laidTests := true, laidLooks := .later }
def RatHalvesCardSaid : Prop := Claim7.holds Tryz.pinned (.plain (OpenSpec.ofChange ratHalvesSpec)) ratHalvesCard

/-- THE TIED CARD OF 'tombolalaw06.RatNames'. -/
def ratNamesCard : Claim7 := { stood := { row := ratNamesRow, standIns := [], harness := (true, "9107e120c209c4a8e69af479eb8913d8b40c18f7d5864b477bdf38f738016ebd"), looks := false }, kinds := [], alts := [], laidByText := true, laidKinds := [.data, .pinned], laidTests := true, laidLooks := .later }
def RatNamesCardSaid : Prop := Claim7.holds Tryz.pinned (.plain (OpenSpec.ofChange ratNamesSpec)) ratNamesCard

/-- THE TIED CARD OF 'tombolalaw06.RatOrder'. -/
def ratOrderCard : Claim7 := { stood := { row := ratOrderRow, standIns := [], harness := (true, "9107e120c209c4a8e69af479eb8913d8b40c18f7d5864b477bdf38f738016ebd"), looks := false }, kinds := [], alts := [], laidByText := true, laidKinds := [.data, .pinned], laidTests := true, laidLooks := .later }
def RatOrderCardSaid : Prop := Claim7.holds Tryz.pinned (.plain (OpenSpec.ofChange ratOrderSpec)) ratOrderCard

/-- THE TIED CARD OF 'tombolalaw06.RatField'. -/
def ratFieldCard : Claim7 := { stood := { row := ratFieldRow, standIns := [], harness := (true, "9107e120c209c4a8e69af479eb8913d8b40c18f7d5864b477bdf38f738016ebd"), looks := false }, kinds := [], alts := [], laidByText := true, laidKinds := [.data, .pinned], laidTests := true, laidLooks := .later }
def RatFieldCardSaid : Prop := Claim7.holds Tryz.pinned (.plain (OpenSpec.ofChange ratFieldSpec)) ratFieldCard

/-- THE SECOND FORM's CARD OF 'tombolalaw06.RatMakes'. -/
def ratMakesUptoCard : Claim7 := { stood := { row := ratMakesUptoRow, standIns := [], harness := (true, "9107e120c209c4a8e69af479eb8913d8b40c18f7d5864b477bdf38f738016ebd"), looks := false }, kinds := [], alts := [], laidByText := true, laidKinds := [.data, .pinned], laidTests := true, laidLooks := .later }
def RatMakesUptoCardSaid : Prop := Claim7.holds Tryz.pinned (.plain (OpenSpec.upto ratMakesSpec)) ratMakesUptoCard

/-- THE SECOND FORM's CARD OF 'tombolalaw06.RatTexts'. -/
def ratTextsUptoCard : Claim7 := { stood := { row := ratTextsUptoRow, standIns := [], harness := (true, "9107e120c209c4a8e69af479eb8913d8b40c18f7d5864b477bdf38f738016ebd"), looks := false }, kinds := [], alts := [], laidByText := true, laidKinds := [.data, .pinned], laidTests := true, laidLooks := .later }
def RatTextsUptoCardSaid : Prop := Claim7.holds Tryz.pinned (.plain (OpenSpec.upto ratTextsSpec)) ratTextsUptoCard

/-- THE SECOND FORM's CARD OF 'tombolalaw06.RatLowest'. -/
def ratLowestUptoCard : Claim7 := { stood := { row := ratLowestUptoRow, standIns := [], harness := (true, "9107e120c209c4a8e69af479eb8913d8b40c18f7d5864b477bdf38f738016ebd"), looks := false }, kinds := [], alts := [], laidByText := true, laidKinds := [.data, .pinned], laidTests := true, laidLooks := .later }
def RatLowestUptoCardSaid : Prop := Claim7.holds Tryz.pinned (.plain (OpenSpec.upto ratLowestSpec)) ratLowestUptoCard

/-- THE SECOND FORM's CARD OF 'tombolalaw06.RatBack'. -/
def ratBackUptoCard : Claim7 := { stood := { row := ratBackUptoRow, standIns := [], harness := (true, "9107e120c209c4a8e69af479eb8913d8b40c18f7d5864b477bdf38f738016ebd"), looks := false }, kinds := [], alts := [], laidByText := true, laidKinds := [.data, .pinned], laidTests := true, laidLooks := .later }
def RatBackUptoCardSaid : Prop := Claim7.holds Tryz.pinned (.plain (OpenSpec.upto ratBackSpec)) ratBackUptoCard

/-- THE SECOND FORM's CARD OF 'tombolalaw06.RatHalves'. -/
def ratHalvesUptoCard : Claim7 := { stood := { row := ratHalvesUptoRow, standIns := [], harness := (true, "9107e120c209c4a8e69af479eb8913d8b40c18f7d5864b477bdf38f738016ebd"), looks := false }, kinds := [], alts := [], laidByText := true, laidKinds := [.data, .pinned], laidTests := true, laidLooks := .later }
def RatHalvesUptoCardSaid : Prop := Claim7.holds Tryz.pinned (.plain (OpenSpec.upto ratHalvesSpec)) ratHalvesUptoCard

/-- THE SECOND FORM's CARD OF 'tombolalaw06.RatNames'. -/
def ratNamesUptoCard : Claim7 := { stood := { row := ratNamesUptoRow, standIns := [], harness := (true, "9107e120c209c4a8e69af479eb8913d8b40c18f7d5864b477bdf38f738016ebd"), looks := false }, kinds := [], alts := [], laidByText := true, laidKinds := [.data, .pinned], laidTests := true, laidLooks := .later }
def RatNamesUptoCardSaid : Prop := Claim7.holds Tryz.pinned (.plain (OpenSpec.upto ratNamesSpec)) ratNamesUptoCard

/-- THE SECOND FORM's CARD OF 'tombolalaw06.RatOrder'. -/
def ratOrderUptoCard : Claim7 := { stood := { row := ratOrderUptoRow, standIns := [], harness := (true, "9107e120c209c4a8e69af479eb8913d8b40c18f7d5864b477bdf38f738016ebd"), looks := false }, kinds := [], alts := [], laidByText := true, laidKinds := [.data, .pinned], laidTests := true, laidLooks := .later }
def RatOrderUptoCardSaid : Prop := Claim7.holds Tryz.pinned (.plain (OpenSpec.upto ratOrderSpec)) ratOrderUptoCard

/-- THE SECOND FORM's CARD OF 'tombolalaw06.RatField'. -/
def ratFieldUptoCard : Claim7 := { stood := { row := ratFieldUptoRow, standIns := [], harness := (true, "9107e120c209c4a8e69af479eb8913d8b40c18f7d5864b477bdf38f738016ebd"), looks := false }, kinds := [], alts := [], laidByText := true, laidKinds := [.data, .pinned], laidTests := true, laidLooks := .later }
def RatFieldUptoCardSaid : Prop := Claim7.holds Tryz.pinned (.plain (OpenSpec.upto ratFieldSpec)) ratFieldUptoCard
end Rows
end Go.Proofs.YtjjpmjhaodpgcaaGreatDoor
