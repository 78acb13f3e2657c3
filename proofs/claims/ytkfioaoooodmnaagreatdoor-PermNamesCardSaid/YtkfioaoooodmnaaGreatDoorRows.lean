/-
  NARROWER THAN 'FOR EVERY INPUT', by the rows' own cells (each row's printed sentence says how): FreqTells: laid · FreqDraws: laid · FreqShares: laid · PermRows: laid · PermDraws: laid · PermNames: laid · PermBack: laid · PermRow: laid · PermEnds: laid · PermDrawn: laid.
  DERIVED. THE GIVEN ROWS OF THIS SEAT. 10 by the template 'for every input the law returns true; each argument reads behind the call as it read before'; 0 by the template 'total and deterministic' (their statements: YtkfioaoooodmnaaGreatDoorTotals.lean).
  GIVEN WITH THE SEED: the statements are not yours to turn. If you find one false, say at which input.
  Laid BY PROGRAM, IN A SANDBOX (cutbox-rows.mjs): the forced cells as the released guide's own fill.sh prints them over the translation 981dd067654970b9… (all of the seat's roots in one cut). By AI agents, Wed Nov 11 2026. No macro, syntax, notation, axiom, sorry.
-/
import Derived.Test.YtkfioaoooodmnaaGreatDoorChecked
import GoSem.PinnedTables
import GoSem.Claim
import GoSem.ClaimJoined
import GoSem.ClaimMapViews
import Derived.JoinedTies
import Derived.KernelRfl
namespace Go.Proofs.YtkfioaoooodmnaaGreatDoor
/- THE CELL 'sum', in the pinned program and in every row, IS THE sha256 OF THE DUMP (.gsa) THAT YtkfioaoooodmnaaGreatDoorProg.lean LOADS. Nothing in Lean hashes anything: it is a label: what it is worth is what the hold of that sum in a sandbox is worth. -/
noncomputable def Tryz.pinned : Pinned := { name := "ytkfioaoooodmnaagreatdoor", sum := "981dd067654970b9bc2194faf0cdca194ec37f1b55fe76feb50b017ecfe037d5", checked := Tryz.checked }
namespace Rows
def none {H : Type} : Left H := { results := [], args := [] }

/- WHAT THE LISTED PACKAGE-LEVEL VARIABLES READ AS WHEN THE CALL BEGINS. Each datum BY PROGRAM (the guide's laid-datum.mjs) off the statement by which the dump's own 'gosem.cut.vars' lays the variable. In a bare row this is a premise. The card (YtkfioaoooodmnaaGreatDoorCards.lean) ties it to the program's text. -/
def laid_unicode_utf8_acceptRanges {H : Type} : DataW H := .agg [.agg [.lit (.int .u8 128), .lit (.int .u8 191)], .agg [.lit (.int .u8 160), .lit (.int .u8 191)], .agg [.lit (.int .u8 128), .lit (.int .u8 159)], .agg [.lit (.int .u8 144), .lit (.int .u8 191)], .agg [.lit (.int .u8 128), .lit (.int .u8 143)], .agg [.lit (.int .u8 0), .lit (.int .u8 0)], .agg [.lit (.int .u8 0), .lit (.int .u8 0)], .agg [.lit (.int .u8 0), .lit (.int .u8 0)], .agg [.lit (.int .u8 0), .lit (.int .u8 0)], .agg [.lit (.int .u8 0), .lit (.int .u8 0)], .agg [.lit (.int .u8 0), .lit (.int .u8 0)], .agg [.lit (.int .u8 0), .lit (.int .u8 0)], .agg [.lit (.int .u8 0), .lit (.int .u8 0)], .agg [.lit (.int .u8 0), .lit (.int .u8 0)], .agg [.lit (.int .u8 0), .lit (.int .u8 0)], .agg [.lit (.int .u8 0), .lit (.int .u8 0)]]
/-- One of Go's own tables, pinned by name: the form's constant. -/
def laid_unicode_utf8_first : DataW Unit := Go.Pinned.utf8First

/-- 'tombolalaw10.FreqTells': WHATEVER THE INPUT: true; the input reads as it did. -/
def freqTellsSpec : ChangeSpec := { name := "freqTells", fn := fun _ => fun
  | [d1, d2, d3] => { results := [.lit (.bool true)], args := [d1, d2, d3] }
  | _ => none }
def freqTellsRow : OpenClaim := { program := "ytkfioaoooodmnaagreatdoor", sum := "981dd067654970b9bc2194faf0cdca194ec37f1b55fe76feb50b017ecfe037d5", func := "tombola/tombolalaw10.FreqTells", spec := "freqTells", inPlace := ["math/bits.Add64", "math/bits.Sub64", "internal/abi.NoEscape", "internal/bytealg.IndexByteString", "internal/bytealg.IndexString"], unfollowed := true, recurses := true, named := ["math/bits.divideError", "math/bits.overflowError", "unicode/utf8.first", "unicode/utf8.acceptRanges", "internal/bytealg.MaxLen"], apart := false, laid := [("unicode/utf8.acceptRanges", laid_unicode_utf8_acceptRanges), ("unicode/utf8.first", laid_unicode_utf8_first)] }
def FreqTellsSaid : Prop := freqTellsRow.holds Tryz.pinned (OpenSpec.ofChange freqTellsSpec)

/-- ITS FALSE NEIGHBOUR: 'it returns false'. Refute it at one input. -/
def freqTellsWrong : ChangeSpec := { name := "freqTells", fn := fun _ => fun
  | [d1, d2, d3] => { results := [.lit (.bool false)], args := [d1, d2, d3] }
  | _ => none }
def FreqTellsWrongFalsely : Prop := freqTellsRow.holds Tryz.pinned (OpenSpec.ofChange freqTellsWrong)

/-- 'tombolalaw10.FreqDraws': WHATEVER THE INPUT: true; the input reads as it did. -/
def freqDrawsSpec : ChangeSpec := { name := "freqDraws", fn := fun _ => fun
  | [d1, d2, d3] => { results := [.lit (.bool true)], args := [d1, d2, d3] }
  | _ => none }
def freqDrawsRow : OpenClaim := { program := "ytkfioaoooodmnaagreatdoor", sum := "981dd067654970b9bc2194faf0cdca194ec37f1b55fe76feb50b017ecfe037d5", func := "tombola/tombolalaw10.FreqDraws", spec := "freqDraws", inPlace := ["math/bits.Add64", "math/bits.Sub64", "internal/abi.NoEscape", "internal/bytealg.IndexByteString", "internal/bytealg.IndexString"], unfollowed := true, recurses := true, named := ["math/bits.divideError", "math/bits.overflowError", "unicode/utf8.first", "unicode/utf8.acceptRanges", "internal/bytealg.MaxLen"], apart := false, laid := [("unicode/utf8.acceptRanges", laid_unicode_utf8_acceptRanges), ("unicode/utf8.first", laid_unicode_utf8_first)] }
def FreqDrawsSaid : Prop := freqDrawsRow.holds Tryz.pinned (OpenSpec.ofChange freqDrawsSpec)

/-- ITS FALSE NEIGHBOUR: 'it returns false'. Refute it at one input. -/
def freqDrawsWrong : ChangeSpec := { name := "freqDraws", fn := fun _ => fun
  | [d1, d2, d3] => { results := [.lit (.bool false)], args := [d1, d2, d3] }
  | _ => none }
def FreqDrawsWrongFalsely : Prop := freqDrawsRow.holds Tryz.pinned (OpenSpec.ofChange freqDrawsWrong)

/-- 'tombolalaw10.FreqShares': WHATEVER THE INPUT: true; the input reads as it did. -/
def freqSharesSpec : ChangeSpec := { name := "freqShares", fn := fun _ => fun
  | [d] => { results := [.lit (.bool true)], args := [d] }
  | _ => none }
def freqSharesRow : OpenClaim := { program := "ytkfioaoooodmnaagreatdoor", sum := "981dd067654970b9bc2194faf0cdca194ec37f1b55fe76feb50b017ecfe037d5", func := "tombola/tombolalaw10.FreqShares", spec := "freqShares", inPlace := ["math/bits.Add64", "math/bits.Sub64", "internal/abi.NoEscape", "internal/bytealg.IndexByteString", "internal/bytealg.IndexString"], unfollowed := true, recurses := true, named := ["math/bits.divideError", "math/bits.overflowError", "unicode/utf8.first", "unicode/utf8.acceptRanges", "internal/bytealg.MaxLen"], apart := false, laid := [("unicode/utf8.acceptRanges", laid_unicode_utf8_acceptRanges), ("unicode/utf8.first", laid_unicode_utf8_first)] }
def FreqSharesSaid : Prop := freqSharesRow.holds Tryz.pinned (OpenSpec.ofChange freqSharesSpec)

/-- ITS FALSE NEIGHBOUR: 'it returns false'. Refute it at one input. -/
def freqSharesWrong : ChangeSpec := { name := "freqShares", fn := fun _ => fun
  | [d] => { results := [.lit (.bool false)], args := [d] }
  | _ => none }
def FreqSharesWrongFalsely : Prop := freqSharesRow.holds Tryz.pinned (OpenSpec.ofChange freqSharesWrong)

/-- 'tombolalaw12.PermRows': WHATEVER THE INPUT: true; the input reads as it did. -/
def permRowsSpec : ChangeSpec := { name := "permRows", fn := fun _ => fun
  | [d1, d2, d3] => { results := [.lit (.bool true)], args := [d1, d2, d3] }
  | _ => none }
def permRowsRow : OpenClaim := { program := "ytkfioaoooodmnaagreatdoor", sum := "981dd067654970b9bc2194faf0cdca194ec37f1b55fe76feb50b017ecfe037d5", func := "tombola/tombolalaw12.PermRows", spec := "permRows", inPlace := ["math/bits.Add64", "math/bits.Sub64", "internal/abi.NoEscape", "internal/bytealg.IndexByteString", "internal/bytealg.IndexString"], unfollowed := true, recurses := true, named := ["math/bits.divideError", "math/bits.overflowError", "unicode/utf8.first", "unicode/utf8.acceptRanges", "internal/bytealg.MaxLen"], apart := false, laid := [("unicode/utf8.acceptRanges", laid_unicode_utf8_acceptRanges), ("unicode/utf8.first", laid_unicode_utf8_first)] }
def PermRowsSaid : Prop := permRowsRow.holds Tryz.pinned (OpenSpec.ofChange permRowsSpec)

/-- ITS FALSE NEIGHBOUR: 'it returns false'. Refute it at one input. -/
def permRowsWrong : ChangeSpec := { name := "permRows", fn := fun _ => fun
  | [d1, d2, d3] => { results := [.lit (.bool false)], args := [d1, d2, d3] }
  | _ => none }
def PermRowsWrongFalsely : Prop := permRowsRow.holds Tryz.pinned (OpenSpec.ofChange permRowsWrong)

/-- 'tombolalaw12.PermDraws': WHATEVER THE INPUT: true; the input reads as it did. -/
def permDrawsSpec : ChangeSpec := { name := "permDraws", fn := fun _ => fun
  | [d1, d2] => { results := [.lit (.bool true)], args := [d1, d2] }
  | _ => none }
def permDrawsRow : OpenClaim := { program := "ytkfioaoooodmnaagreatdoor", sum := "981dd067654970b9bc2194faf0cdca194ec37f1b55fe76feb50b017ecfe037d5", func := "tombola/tombolalaw12.PermDraws", spec := "permDraws", inPlace := ["math/bits.Add64", "math/bits.Sub64", "internal/abi.NoEscape", "internal/bytealg.IndexByteString", "internal/bytealg.IndexString"], unfollowed := true, recurses := true, named := ["math/bits.divideError", "math/bits.overflowError", "unicode/utf8.first", "unicode/utf8.acceptRanges", "internal/bytealg.MaxLen"], apart := false, laid := [("unicode/utf8.acceptRanges", laid_unicode_utf8_acceptRanges), ("unicode/utf8.first", laid_unicode_utf8_first)] }
def PermDrawsSaid : Prop := permDrawsRow.holds Tryz.pinned (OpenSpec.ofChange permDrawsSpec)

/-- ITS FALSE NEIGHBOUR: 'it returns false'. Refute it at one input. -/
def permDrawsWrong : ChangeSpec := { name := "permDraws", fn := fun _ => fun
  | [d1, d2] => { results := [.lit (.bool false)], args := [d1, d2] }
  | _ => none }
def PermDrawsWrongFalsely : Prop := permDrawsRow.holds Tryz.pinned (OpenSpec.ofChange permDrawsWrong)

/-- 'tombolalaw12.PermNames': WHATEVER THE INPUT: true; the input reads as it did. -/
def permNamesSpec : ChangeSpec := { name := "permNames", fn := fun _ => fun
  | [] => { results := [.lit (.bool true)], args := [] }
  | _ => none }
def permNamesRow : OpenClaim := { program := "ytkfioaoooodmnaagreatdoor", sum := "981dd067654970b9bc2194faf0cdca194ec37f1b55fe76feb50b017ecfe037d5", func := "tombola/tombolalaw12.PermNames", spec := "permNames", inPlace := ["math/bits.Add64", "math/bits.Sub64", "internal/abi.NoEscape", "internal/bytealg.IndexByteString", "internal/bytealg.IndexString"], unfollowed := true, recurses := true, named := ["math/bits.divideError", "math/bits.overflowError", "unicode/utf8.first", "unicode/utf8.acceptRanges", "internal/bytealg.MaxLen"], apart := false, laid := [("unicode/utf8.acceptRanges", laid_unicode_utf8_acceptRanges), ("unicode/utf8.first", laid_unicode_utf8_first)] }
def PermNamesSaid : Prop := permNamesRow.holds Tryz.pinned (OpenSpec.ofChange permNamesSpec)

/-- ITS FALSE NEIGHBOUR: 'it returns false'. Refute it at one input. -/
def permNamesWrong : ChangeSpec := { name := "permNames", fn := fun _ => fun
  | [] => { results := [.lit (.bool false)], args := [] }
  | _ => none }
def PermNamesWrongFalsely : Prop := permNamesRow.holds Tryz.pinned (OpenSpec.ofChange permNamesWrong)

/-- 'tombolalaw12.PermBack': WHATEVER THE INPUT: true; the input reads as it did. -/
def permBackSpec : ChangeSpec := { name := "permBack", fn := fun _ => fun
  | [d1, d2] => { results := [.lit (.bool true)], args := [d1, d2] }
  | _ => none }
def permBackRow : OpenClaim := { program := "ytkfioaoooodmnaagreatdoor", sum := "981dd067654970b9bc2194faf0cdca194ec37f1b55fe76feb50b017ecfe037d5", func := "tombola/tombolalaw12.PermBack", spec := "permBack", inPlace := ["math/bits.Add64", "math/bits.Sub64", "internal/abi.NoEscape", "internal/bytealg.IndexByteString", "internal/bytealg.IndexString"], unfollowed := true, recurses := true, named := ["math/bits.divideError", "math/bits.overflowError", "unicode/utf8.first", "unicode/utf8.acceptRanges", "internal/bytealg.MaxLen"], apart := false, laid := [("unicode/utf8.acceptRanges", laid_unicode_utf8_acceptRanges), ("unicode/utf8.first", laid_unicode_utf8_first)] }
def PermBackSaid : Prop := permBackRow.holds Tryz.pinned (OpenSpec.ofChange permBackSpec)

/-- ITS FALSE NEIGHBOUR: 'it returns false'. Refute it at one input. -/
def permBackWrong : ChangeSpec := { name := "permBack", fn := fun _ => fun
  | [d1, d2] => { results := [.lit (.bool false)], args := [d1, d2] }
  | _ => none }
def PermBackWrongFalsely : Prop := permBackRow.holds Tryz.pinned (OpenSpec.ofChange permBackWrong)

/-- 'tombolalaw12.PermRow': WHATEVER THE INPUT: true; the input reads as it did. -/
def permRowSpec : ChangeSpec := { name := "permRow", fn := fun _ => fun
  | [d] => { results := [.lit (.bool true)], args := [d] }
  | _ => none }
def permRowRow : OpenClaim := { program := "ytkfioaoooodmnaagreatdoor", sum := "981dd067654970b9bc2194faf0cdca194ec37f1b55fe76feb50b017ecfe037d5", func := "tombola/tombolalaw12.PermRow", spec := "permRow", inPlace := ["math/bits.Add64", "math/bits.Sub64", "internal/abi.NoEscape", "internal/bytealg.IndexByteString", "internal/bytealg.IndexString"], unfollowed := true, recurses := true, named := ["math/bits.divideError", "math/bits.overflowError", "unicode/utf8.first", "unicode/utf8.acceptRanges", "internal/bytealg.MaxLen"], apart := false, laid := [("unicode/utf8.acceptRanges", laid_unicode_utf8_acceptRanges), ("unicode/utf8.first", laid_unicode_utf8_first)] }
def PermRowSaid : Prop := permRowRow.holds Tryz.pinned (OpenSpec.ofChange permRowSpec)

/-- ITS FALSE NEIGHBOUR: 'it returns false'. Refute it at one input. -/
def permRowWrong : ChangeSpec := { name := "permRow", fn := fun _ => fun
  | [d] => { results := [.lit (.bool false)], args := [d] }
  | _ => none }
def PermRowWrongFalsely : Prop := permRowRow.holds Tryz.pinned (OpenSpec.ofChange permRowWrong)

/-- 'tombolalaw12.PermEnds': WHATEVER THE INPUT: true; the input reads as it did. -/
def permEndsSpec : ChangeSpec := { name := "permEnds", fn := fun _ => fun
  | [d] => { results := [.lit (.bool true)], args := [d] }
  | _ => none }
def permEndsRow : OpenClaim := { program := "ytkfioaoooodmnaagreatdoor", sum := "981dd067654970b9bc2194faf0cdca194ec37f1b55fe76feb50b017ecfe037d5", func := "tombola/tombolalaw12.PermEnds", spec := "permEnds", inPlace := ["math/bits.Add64", "math/bits.Sub64", "internal/abi.NoEscape", "internal/bytealg.IndexByteString", "internal/bytealg.IndexString"], unfollowed := true, recurses := true, named := ["math/bits.divideError", "math/bits.overflowError", "unicode/utf8.first", "unicode/utf8.acceptRanges", "internal/bytealg.MaxLen"], apart := false, laid := [("unicode/utf8.acceptRanges", laid_unicode_utf8_acceptRanges), ("unicode/utf8.first", laid_unicode_utf8_first)] }
def PermEndsSaid : Prop := permEndsRow.holds Tryz.pinned (OpenSpec.ofChange permEndsSpec)

/-- ITS FALSE NEIGHBOUR: 'it returns false'. Refute it at one input. -/
def permEndsWrong : ChangeSpec := { name := "permEnds", fn := fun _ => fun
  | [d] => { results := [.lit (.bool false)], args := [d] }
  | _ => none }
def PermEndsWrongFalsely : Prop := permEndsRow.holds Tryz.pinned (OpenSpec.ofChange permEndsWrong)

/-- 'tombolalaw12.PermDrawn': WHATEVER THE INPUT: true; the input reads as it did. -/
def permDrawnSpec : ChangeSpec := { name := "permDrawn", fn := fun _ => fun
  | [d1, d2] => { results := [.lit (.bool true)], args := [d1, d2] }
  | _ => none }
def permDrawnRow : OpenClaim := { program := "ytkfioaoooodmnaagreatdoor", sum := "981dd067654970b9bc2194faf0cdca194ec37f1b55fe76feb50b017ecfe037d5", func := "tombola/tombolalaw12.PermDrawn", spec := "permDrawn", inPlace := ["math/bits.Add64", "math/bits.Sub64", "internal/abi.NoEscape", "internal/bytealg.IndexByteString", "internal/bytealg.IndexString"], unfollowed := true, recurses := true, named := ["math/bits.divideError", "math/bits.overflowError", "unicode/utf8.first", "unicode/utf8.acceptRanges", "internal/bytealg.MaxLen"], apart := false, laid := [("unicode/utf8.acceptRanges", laid_unicode_utf8_acceptRanges), ("unicode/utf8.first", laid_unicode_utf8_first)] }
def PermDrawnSaid : Prop := permDrawnRow.holds Tryz.pinned (OpenSpec.ofChange permDrawnSpec)

/-- ITS FALSE NEIGHBOUR: 'it returns false'. Refute it at one input. -/
def permDrawnWrong : ChangeSpec := { name := "permDrawn", fn := fun _ => fun
  | [d1, d2] => { results := [.lit (.bool false)], args := [d1, d2] }
  | _ => none }
def PermDrawnWrongFalsely : Prop := permDrawnRow.holds Tryz.pinned (OpenSpec.ofChange permDrawnWrong)

/- THE SECOND FORM. 'bulk': how many values and letters a reading holds, each counted each time it is reached (what is shared counts as often as it is met; a slice's spare places count too). A statement '..UptoSaid' is the law's where the arguments, and the package variables that the reading takes, are together of bulk at most 1048576: NARROWER than '..Said'. Prove '..Said' where nothing that the law and all that it calls make is longer than what came in: it says more and counts as full. Else prove '..UptoSaid'. A law counts once. -/
mutual
def uptoBulk {H : Type} : DataW H → Nat
  | .lit (.string bytes) => bytes.length + 1
  | .lit _ => 1
  | .nil => 1
  | .ptr d => uptoBulk d + 1
  | .slice elems spare => uptoBulkAll elems + uptoBulkAll spare + 1
  | .agg parts => uptoBulkAll parts + 1
  | .iface _ d => uptoBulk d + 1
  | .map entries => uptoBulkEntries entries + 1
  | .held _ => 1
def uptoBulkAll {H : Type} : List (DataW H) → Nat
  | [] => 0
  | d :: r => uptoBulk d + uptoBulkAll r
def uptoBulkEntries {H : Type} : List (Lit × DataW H) → Nat
  | [] => 0
  | x :: r => uptoBulkEntry x + uptoBulkEntries r
def uptoBulkEntry {H : Type} : Lit × DataW H → Nat
  | (.string bytes, d) => bytes.length + uptoBulk d + 1
  | (_, d) => uptoBulk d + 1
 end
def uptoSmall : (H : Type) → List (DataW H) → Bool := fun _ ds => decide (uptoBulkAll ds ≤ 1048576)
def OpenSpec.upto (s : _root_.Go.ChangeSpec) : _root_.Go.OpenSpec := { _root_.Go.OpenSpec.ofChange s with cond := some uptoSmall }

/-- 'tombolalaw10.FreqTells', WHERE WHAT IT READS IS OF BULK AT MOST 1048576: true; the input reads as it did. -/
def freqTellsUptoRow : OpenClaim := { program := "ytkfioaoooodmnaagreatdoor", sum := "981dd067654970b9bc2194faf0cdca194ec37f1b55fe76feb50b017ecfe037d5", func := "tombola/tombolalaw10.FreqTells", spec := "freqTells", inPlace := ["math/bits.Add64", "math/bits.Sub64", "internal/abi.NoEscape", "internal/bytealg.IndexByteString", "internal/bytealg.IndexString"], unfollowed := true, recurses := true, named := ["math/bits.divideError", "math/bits.overflowError", "unicode/utf8.first", "unicode/utf8.acceptRanges", "internal/bytealg.MaxLen"], apart := false, laid := [("unicode/utf8.acceptRanges", laid_unicode_utf8_acceptRanges), ("unicode/utf8.first", laid_unicode_utf8_first)], narrowed := true }
def FreqTellsUptoSaid : Prop := freqTellsUptoRow.holds Tryz.pinned (OpenSpec.upto freqTellsSpec)

/-- 'tombolalaw10.FreqDraws', WHERE WHAT IT READS IS OF BULK AT MOST 1048576: true; the input reads as it did. -/
def freqDrawsUptoRow : OpenClaim := { program := "ytkfioaoooodmnaagreatdoor", sum := "981dd067654970b9bc2194faf0cdca194ec37f1b55fe76feb50b017ecfe037d5", func := "tombola/tombolalaw10.FreqDraws", spec := "freqDraws", inPlace := ["math/bits.Add64", "math/bits.Sub64", "internal/abi.NoEscape", "internal/bytealg.IndexByteString", "internal/bytealg.IndexString"], unfollowed := true, recurses := true, named := ["math/bits.divideError", "math/bits.overflowError", "unicode/utf8.first", "unicode/utf8.acceptRanges", "internal/bytealg.MaxLen"], apart := false, laid := [("unicode/utf8.acceptRanges", laid_unicode_utf8_acceptRanges), ("unicode/utf8.first", laid_unicode_utf8_first)], narrowed := true }
def FreqDrawsUptoSaid : Prop := freqDrawsUptoRow.holds Tryz.pinned (OpenSpec.upto freqDrawsSpec)

/-- 'tombolalaw10.FreqShares', WHERE WHAT IT READS IS OF BULK AT MOST 1048576: true; the input reads as it did. -/
def freqSharesUptoRow : OpenClaim := { program := "ytkfioaoooodmnaagreatdoor", sum := "981dd067654970b9bc2194faf0cdca194ec37f1b55fe76feb50b017ecfe037d5", func := "tombola/tombolalaw10.FreqShares", spec := "freqShares", inPlace := ["math/bits.Add64", "math/bits.Sub64", "internal/abi.NoEscape", "internal/bytealg.IndexByteString", "internal/bytealg.IndexString"], unfollowed := true, recurses := true, named := ["math/bits.divideError", "math/bits.overflowError", "unicode/utf8.first", "unicode/utf8.acceptRanges", "internal/bytealg.MaxLen"], apart := false, laid := [("unicode/utf8.acceptRanges", laid_unicode_utf8_acceptRanges), ("unicode/utf8.first", laid_unicode_utf8_first)], narrowed := true }
def FreqSharesUptoSaid : Prop := freqSharesUptoRow.holds Tryz.pinned (OpenSpec.upto freqSharesSpec)

/-- 'tombolalaw12.PermRows', WHERE WHAT IT READS IS OF BULK AT MOST 1048576: true; the input reads as it did. -/
def permRowsUptoRow : OpenClaim := { program := "ytkfioaoooodmnaagreatdoor", sum := "981dd067654970b9bc2194faf0cdca194ec37f1b55fe76feb50b017ecfe037d5", func := "tombola/tombolalaw12.PermRows", spec := "permRows", inPlace := ["math/bits.Add64", "math/bits.Sub64", "internal/abi.NoEscape", "internal/bytealg.IndexByteString", "internal/bytealg.IndexString"], unfollowed := true, recurses := true, named := ["math/bits.divideError", "math/bits.overflowError", "unicode/utf8.first", "unicode/utf8.acceptRanges", "internal/bytealg.MaxLen"], apart := false, laid := [("unicode/utf8.acceptRanges", laid_unicode_utf8_acceptRanges), ("unicode/utf8.first", laid_unicode_utf8_first)], narrowed := true }
def PermRowsUptoSaid : Prop := permRowsUptoRow.holds Tryz.pinned (OpenSpec.upto permRowsSpec)

/-- 'tombolalaw12.PermDraws', WHERE WHAT IT READS IS OF BULK AT MOST 1048576: true; the input reads as it did. -/
def permDrawsUptoRow : OpenClaim := { program := "ytkfioaoooodmnaagreatdoor", sum := "981dd067654970b9bc2194faf0cdca194ec37f1b55fe76feb50b017ecfe037d5", func := "tombola/tombolalaw12.PermDraws", spec := "permDraws", inPlace := ["math/bits.Add64", "math/bits.Sub64", "internal/abi.NoEscape", "internal/bytealg.IndexByteString", "internal/bytealg.IndexString"], unfollowed := true, recurses := true, named := ["math/bits.divideError", "math/bits.overflowError", "unicode/utf8.first", "unicode/utf8.acceptRanges", "internal/bytealg.MaxLen"], apart := false, laid := [("unicode/utf8.acceptRanges", laid_unicode_utf8_acceptRanges), ("unicode/utf8.first", laid_unicode_utf8_first)], narrowed := true }
def PermDrawsUptoSaid : Prop := permDrawsUptoRow.holds Tryz.pinned (OpenSpec.upto permDrawsSpec)

/-- 'tombolalaw12.PermNames', WHERE WHAT IT READS IS OF BULK AT MOST 1048576: true; the input reads as it did. -/
def permNamesUptoRow : OpenClaim := { program := "ytkfioaoooodmnaagreatdoor", sum := "981dd067654970b9bc2194faf0cdca194ec37f1b55fe76feb50b017ecfe037d5", func := "tombola/tombolalaw12.PermNames", spec := "permNames", inPlace := ["math/bits.Add64", "math/bits.Sub64", "internal/abi.NoEscape", "internal/bytealg.IndexByteString", "internal/bytealg.IndexString"], unfollowed := true, recurses := true, named := ["math/bits.divideError", "math/bits.overflowError", "unicode/utf8.first", "unicode/utf8.acceptRanges", "internal/bytealg.MaxLen"], apart := false, laid := [("unicode/utf8.acceptRanges", laid_unicode_utf8_acceptRanges), ("unicode/utf8.first", laid_unicode_utf8_first)], narrowed := true }
def PermNamesUptoSaid : Prop := permNamesUptoRow.holds Tryz.pinned (OpenSpec.upto permNamesSpec)

/-- 'tombolalaw12.PermBack', WHERE WHAT IT READS IS OF BULK AT MOST 1048576: true; the input reads as it did. -/
def permBackUptoRow : OpenClaim := { program := "ytkfioaoooodmnaagreatdoor", sum := "981dd067654970b9bc2194faf0cdca194ec37f1b55fe76feb50b017ecfe037d5", func := "tombola/tombolalaw12.PermBack", spec := "permBack", inPlace := ["math/bits.Add64", "math/bits.Sub64", "internal/abi.NoEscape", "internal/bytealg.IndexByteString", "internal/bytealg.IndexString"], unfollowed := true, recurses := true, named := ["math/bits.divideError", "math/bits.overflowError", "unicode/utf8.first", "unicode/utf8.acceptRanges", "internal/bytealg.MaxLen"], apart := false, laid := [("unicode/utf8.acceptRanges", laid_unicode_utf8_acceptRanges), ("unicode/utf8.first", laid_unicode_utf8_first)], narrowed := true }
def PermBackUptoSaid : Prop := permBackUptoRow.holds Tryz.pinned (OpenSpec.upto permBackSpec)

/-- 'tombolalaw12.PermRow', WHERE WHAT IT READS IS OF BULK AT MOST 1048576: true; the input reads as it did. -/
def permRowUptoRow : OpenClaim := { program := "ytkfioaoooodmnaagreatdoor", sum := "981dd067654970b9bc2194faf0cdca194ec37f1b55fe76feb50b017ecfe037d5", func := "tombola/tombolalaw12.PermRow", spec := "permRow", inPlace := ["math/bits.Add64", "math/bits.Sub64", "internal/abi.NoEscape", "internal/bytealg.IndexByteString", "internal/bytealg.IndexString"], unfollowed := true, recurses := true, named := ["math/bits.divideError", "math/bits.overflowError", "unicode/utf8.first", "unicode/utf8.acceptRanges", "internal/bytealg.MaxLen"], apart := false, laid := [("unicode/utf8.acceptRanges", laid_unicode_utf8_acceptRanges), ("unicode/utf8.first", laid_unicode_utf8_first)], narrowed := true }
def PermRowUptoSaid : Prop := permRowUptoRow.holds Tryz.pinned (OpenSpec.upto permRowSpec)

/-- 'tombolalaw12.PermEnds', WHERE WHAT IT READS IS OF BULK AT MOST 1048576: true; the input reads as it did. -/
def permEndsUptoRow : OpenClaim := { program := "ytkfioaoooodmnaagreatdoor", sum := "981dd067654970b9bc2194faf0cdca194ec37f1b55fe76feb50b017ecfe037d5", func := "tombola/tombolalaw12.PermEnds", spec := "permEnds", inPlace := ["math/bits.Add64", "math/bits.Sub64", "internal/abi.NoEscape", "internal/bytealg.IndexByteString", "internal/bytealg.IndexString"], unfollowed := true, recurses := true, named := ["math/bits.divideError", "math/bits.overflowError", "unicode/utf8.first", "unicode/utf8.acceptRanges", "internal/bytealg.MaxLen"], apart := false, laid := [("unicode/utf8.acceptRanges", laid_unicode_utf8_acceptRanges), ("unicode/utf8.first", laid_unicode_utf8_first)], narrowed := true }
def PermEndsUptoSaid : Prop := permEndsUptoRow.holds Tryz.pinned (OpenSpec.upto permEndsSpec)

/-- 'tombolalaw12.PermDrawn', WHERE WHAT IT READS IS OF BULK AT MOST 1048576: true; the input reads as it did. -/
def permDrawnUptoRow : OpenClaim := { program := "ytkfioaoooodmnaagreatdoor", sum := "981dd067654970b9bc2194faf0cdca194ec37f1b55fe76feb50b017ecfe037d5", func := "tombola/tombolalaw12.PermDrawn", spec := "permDrawn", inPlace := ["math/bits.Add64", "math/bits.Sub64", "internal/abi.NoEscape", "internal/bytealg.IndexByteString", "internal/bytealg.IndexString"], unfollowed := true, recurses := true, named := ["math/bits.divideError", "math/bits.overflowError", "unicode/utf8.first", "unicode/utf8.acceptRanges", "internal/bytealg.MaxLen"], apart := false, laid := [("unicode/utf8.acceptRanges", laid_unicode_utf8_acceptRanges), ("unicode/utf8.first", laid_unicode_utf8_first)], narrowed := true }
def PermDrawnUptoSaid : Prop := permDrawnUptoRow.holds Tryz.pinned (OpenSpec.upto permDrawnSpec)

end Rows
end Go.Proofs.YtkfioaoooodmnaaGreatDoor
