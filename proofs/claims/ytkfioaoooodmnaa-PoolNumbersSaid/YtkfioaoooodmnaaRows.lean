/-
  No cell of these rows narrows 'for every input' (looked for: loops, veiled, ifaces, maps, wideKeys, modest, calm, conditions, laid).
  DERIVED. THE GIVEN ROWS OF THIS SEAT. 8 by the template 'for every input the law returns true; each argument reads behind the call as it read before'; 0 by the template 'total and deterministic' (their statements: YtkfioaoooodmnaaTotals.lean).
  GIVEN WITH THE SEED: the statements are not yours to turn. If you find one false, say at which input.
  Laid BY PROGRAM, IN A SANDBOX (cutbox-rows.mjs): the forced cells as the released guide's own fill.sh prints them over the translation 51a0d8de5e91c2c8… (all of the seat's roots in one cut). By AI agents, Wed Nov 11 2026. No macro, syntax, notation, axiom, sorry.
-/
import Derived.Test.YtkfioaoooodmnaaChecked
import GoSem.Claim
import GoSem.ClaimJoined
import GoSem.ClaimMapViews
import Derived.JoinedTies
import Derived.KernelRfl
namespace Go.Proofs.Ytkfioaoooodmnaa
/- THE CELL 'sum', in the pinned program and in every row, IS THE sha256 OF THE DUMP (.gsa) THAT YtkfioaoooodmnaaProg.lean LOADS. Nothing in Lean hashes anything: it is a label: what it is worth is what the hold of that sum in a sandbox is worth. -/
noncomputable def Try.pinned : Pinned := { name := "ytkfioaoooodmnaa", sum := "51a0d8de5e91c2c8abe41145237090d047247f4c6f04d801e94962fcbf7eba80", checked := Try.checked }
namespace Rows
def none {H : Type} : Left H := { results := [], args := [] }

/-- 'tombolalaw13.PoolRows': WHATEVER THE INPUT: true; the input reads as it did. -/
def poolRowsSpec : ChangeSpec := { name := "poolRows", fn := fun _ => fun
  | [d1, d2, d3] => { results := [.lit (.bool true)], args := [d1, d2, d3] }
  | _ => none }
def poolRowsRow : OpenClaim := { program := "ytkfioaoooodmnaa", sum := "51a0d8de5e91c2c8abe41145237090d047247f4c6f04d801e94962fcbf7eba80", func := "tombola/tombolalaw13.PoolRows", spec := "poolRows", inPlace := ["math/bits.Add64", "math/bits.Sub64"], unfollowed := true, recurses := true, named := ["math/bits.divideError", "math/bits.overflowError"], apart := false }
def PoolRowsSaid : Prop := poolRowsRow.holds Try.pinned (OpenSpec.ofChange poolRowsSpec)

/-- ITS FALSE NEIGHBOUR: 'it returns false'. Refute it at one input. -/
def poolRowsWrong : ChangeSpec := { name := "poolRows", fn := fun _ => fun
  | [d1, d2, d3] => { results := [.lit (.bool false)], args := [d1, d2, d3] }
  | _ => none }
def PoolRowsWrongFalsely : Prop := poolRowsRow.holds Try.pinned (OpenSpec.ofChange poolRowsWrong)

/-- 'tombolalaw13.PoolEven': WHATEVER THE INPUT: true; the input reads as it did. -/
def poolEvenSpec : ChangeSpec := { name := "poolEven", fn := fun _ => fun
  | [d1, d2] => { results := [.lit (.bool true)], args := [d1, d2] }
  | _ => none }
def poolEvenRow : OpenClaim := { program := "ytkfioaoooodmnaa", sum := "51a0d8de5e91c2c8abe41145237090d047247f4c6f04d801e94962fcbf7eba80", func := "tombola/tombolalaw13.PoolEven", spec := "poolEven", inPlace := ["math/bits.Add64", "math/bits.Sub64"], unfollowed := true, recurses := true, named := ["math/bits.divideError", "math/bits.overflowError"], apart := false }
def PoolEvenSaid : Prop := poolEvenRow.holds Try.pinned (OpenSpec.ofChange poolEvenSpec)

/-- ITS FALSE NEIGHBOUR: 'it returns false'. Refute it at one input. -/
def poolEvenWrong : ChangeSpec := { name := "poolEven", fn := fun _ => fun
  | [d1, d2] => { results := [.lit (.bool false)], args := [d1, d2] }
  | _ => none }
def PoolEvenWrongFalsely : Prop := poolEvenRow.holds Try.pinned (OpenSpec.ofChange poolEvenWrong)

/-- 'tombolalaw13.PoolRises': WHATEVER THE INPUT: true; the input reads as it did. -/
def poolRisesSpec : ChangeSpec := { name := "poolRises", fn := fun _ => fun
  | [d1, d2, d3, d4] => { results := [.lit (.bool true)], args := [d1, d2, d3, d4] }
  | _ => none }
def poolRisesRow : OpenClaim := { program := "ytkfioaoooodmnaa", sum := "51a0d8de5e91c2c8abe41145237090d047247f4c6f04d801e94962fcbf7eba80", func := "tombola/tombolalaw13.PoolRises", spec := "poolRises", inPlace := ["math/bits.Add64", "math/bits.Sub64"], unfollowed := true, recurses := true, named := ["math/bits.divideError", "math/bits.overflowError"], apart := false }
def PoolRisesSaid : Prop := poolRisesRow.holds Try.pinned (OpenSpec.ofChange poolRisesSpec)

/-- ITS FALSE NEIGHBOUR: 'it returns false'. Refute it at one input. -/
def poolRisesWrong : ChangeSpec := { name := "poolRises", fn := fun _ => fun
  | [d1, d2, d3, d4] => { results := [.lit (.bool false)], args := [d1, d2, d3, d4] }
  | _ => none }
def PoolRisesWrongFalsely : Prop := poolRisesRow.holds Try.pinned (OpenSpec.ofChange poolRisesWrong)

/-- 'tombolalaw13.PoolChoices': WHATEVER THE INPUT: true; the input reads as it did. -/
def poolChoicesSpec : ChangeSpec := { name := "poolChoices", fn := fun _ => fun
  | [d1, d2] => { results := [.lit (.bool true)], args := [d1, d2] }
  | _ => none }
def poolChoicesRow : OpenClaim := { program := "ytkfioaoooodmnaa", sum := "51a0d8de5e91c2c8abe41145237090d047247f4c6f04d801e94962fcbf7eba80", func := "tombola/tombolalaw13.PoolChoices", spec := "poolChoices", inPlace := ["math/bits.Add64", "math/bits.Sub64"], unfollowed := true, recurses := true, named := ["math/bits.divideError", "math/bits.overflowError"], apart := false }
def PoolChoicesSaid : Prop := poolChoicesRow.holds Try.pinned (OpenSpec.ofChange poolChoicesSpec)

/-- ITS FALSE NEIGHBOUR: 'it returns false'. Refute it at one input. -/
def poolChoicesWrong : ChangeSpec := { name := "poolChoices", fn := fun _ => fun
  | [d1, d2] => { results := [.lit (.bool false)], args := [d1, d2] }
  | _ => none }
def PoolChoicesWrongFalsely : Prop := poolChoicesRow.holds Try.pinned (OpenSpec.ofChange poolChoicesWrong)

/-- 'tombolalaw13.PoolSums': WHATEVER THE INPUT: true; the input reads as it did. -/
def poolSumsSpec : ChangeSpec := { name := "poolSums", fn := fun _ => fun
  | [d1, d2] => { results := [.lit (.bool true)], args := [d1, d2] }
  | _ => none }
def poolSumsRow : OpenClaim := { program := "ytkfioaoooodmnaa", sum := "51a0d8de5e91c2c8abe41145237090d047247f4c6f04d801e94962fcbf7eba80", func := "tombola/tombolalaw13.PoolSums", spec := "poolSums", inPlace := ["math/bits.Add64", "math/bits.Sub64"], unfollowed := true, recurses := true, named := ["math/bits.divideError", "math/bits.overflowError"], apart := false }
def PoolSumsSaid : Prop := poolSumsRow.holds Try.pinned (OpenSpec.ofChange poolSumsSpec)

/-- ITS FALSE NEIGHBOUR: 'it returns false'. Refute it at one input. -/
def poolSumsWrong : ChangeSpec := { name := "poolSums", fn := fun _ => fun
  | [d1, d2] => { results := [.lit (.bool false)], args := [d1, d2] }
  | _ => none }
def PoolSumsWrongFalsely : Prop := poolSumsRow.holds Try.pinned (OpenSpec.ofChange poolSumsWrong)

/-- 'tombolalaw13.PoolMore': WHATEVER THE INPUT: true; the input reads as it did. -/
def poolMoreSpec : ChangeSpec := { name := "poolMore", fn := fun _ => fun
  | [d1, d2, d3, d4] => { results := [.lit (.bool true)], args := [d1, d2, d3, d4] }
  | _ => none }
def poolMoreRow : OpenClaim := { program := "ytkfioaoooodmnaa", sum := "51a0d8de5e91c2c8abe41145237090d047247f4c6f04d801e94962fcbf7eba80", func := "tombola/tombolalaw13.PoolMore", spec := "poolMore", inPlace := ["math/bits.Add64", "math/bits.Sub64"], unfollowed := true, recurses := true, named := ["math/bits.divideError", "math/bits.overflowError"], apart := false }
def PoolMoreSaid : Prop := poolMoreRow.holds Try.pinned (OpenSpec.ofChange poolMoreSpec)

/-- ITS FALSE NEIGHBOUR: 'it returns false'. Refute it at one input. -/
def poolMoreWrong : ChangeSpec := { name := "poolMore", fn := fun _ => fun
  | [d1, d2, d3, d4] => { results := [.lit (.bool false)], args := [d1, d2, d3, d4] }
  | _ => none }
def PoolMoreWrongFalsely : Prop := poolMoreRow.holds Try.pinned (OpenSpec.ofChange poolMoreWrong)

/-- 'tombolalaw13.PoolNames': WHATEVER THE INPUT: true; the input reads as it did. -/
def poolNamesSpec : ChangeSpec := { name := "poolNames", fn := fun _ => fun
  | [] => { results := [.lit (.bool true)], args := [] }
  | _ => none }
def poolNamesRow : OpenClaim := { program := "ytkfioaoooodmnaa", sum := "51a0d8de5e91c2c8abe41145237090d047247f4c6f04d801e94962fcbf7eba80", func := "tombola/tombolalaw13.PoolNames", spec := "poolNames", inPlace := ["math/bits.Add64", "math/bits.Sub64"], unfollowed := true, recurses := true, named := ["math/bits.divideError", "math/bits.overflowError"], apart := false }
def PoolNamesSaid : Prop := poolNamesRow.holds Try.pinned (OpenSpec.ofChange poolNamesSpec)

/-- ITS FALSE NEIGHBOUR: 'it returns false'. Refute it at one input. -/
def poolNamesWrong : ChangeSpec := { name := "poolNames", fn := fun _ => fun
  | [] => { results := [.lit (.bool false)], args := [] }
  | _ => none }
def PoolNamesWrongFalsely : Prop := poolNamesRow.holds Try.pinned (OpenSpec.ofChange poolNamesWrong)

/-- 'tombolalaw13.PoolNumbers': WHATEVER THE INPUT: true; the input reads as it did. -/
def poolNumbersSpec : ChangeSpec := { name := "poolNumbers", fn := fun _ => fun
  | [d1, d2, d3, d4] => { results := [.lit (.bool true)], args := [d1, d2, d3, d4] }
  | _ => none }
def poolNumbersRow : OpenClaim := { program := "ytkfioaoooodmnaa", sum := "51a0d8de5e91c2c8abe41145237090d047247f4c6f04d801e94962fcbf7eba80", func := "tombola/tombolalaw13.PoolNumbers", spec := "poolNumbers", inPlace := ["math/bits.Add64", "math/bits.Sub64"], unfollowed := true, recurses := true, named := ["math/bits.divideError", "math/bits.overflowError"], apart := false }
def PoolNumbersSaid : Prop := poolNumbersRow.holds Try.pinned (OpenSpec.ofChange poolNumbersSpec)

/-- ITS FALSE NEIGHBOUR: 'it returns false'. Refute it at one input. -/
def poolNumbersWrong : ChangeSpec := { name := "poolNumbers", fn := fun _ => fun
  | [d1, d2, d3, d4] => { results := [.lit (.bool false)], args := [d1, d2, d3, d4] }
  | _ => none }
def PoolNumbersWrongFalsely : Prop := poolNumbersRow.holds Try.pinned (OpenSpec.ofChange poolNumbersWrong)

/- THE SECOND FORM. 'bulk': how many values and letters a reading holds, each counted each time it is reached (what is shared counts as often as it is met; a slice's spare places count too). A statement '..UptoSaid' is the law's where the arguments, and the package variables that the reading takes, are together of bulk at most 1048576: NARROWER than '..Said'. Prove '..Said' where nothing that the law and all that it calls make is longer than what came in: it says more and counts as full. Else prove '..UptoSaid'. A law counts once. -/
mutual
def uptoBulk {H : Type} : DataW H → Nat
  | .lit (.string bytes) => bytes.length + 1
  | .lit _ => 1
  | .nil => 1
  | .ptr d => uptoBulk d + 1
  | .slice elems spare => uptoBulkAll elems + uptoBulkAll spare + 1
  | .agg parts => uptoBulkAll parts + 1
  | .iface _ d => uptoBulk d + 1
  | .map entries => uptoBulkEntries entries + 1
  | .held _ => 1
def uptoBulkAll {H : Type} : List (DataW H) → Nat
  | [] => 0
  | d :: r => uptoBulk d + uptoBulkAll r
def uptoBulkEntries {H : Type} : List (Lit × DataW H) → Nat
  | [] => 0
  | x :: r => uptoBulkEntry x + uptoBulkEntries r
def uptoBulkEntry {H : Type} : Lit × DataW H → Nat
  | (.string bytes, d) => bytes.length + uptoBulk d + 1
  | (_, d) => uptoBulk d + 1
 end
def uptoSmall : (H : Type) → List (DataW H) → Bool := fun _ ds => decide (uptoBulkAll ds ≤ 1048576)
def OpenSpec.upto (s : _root_.Go.ChangeSpec) : _root_.Go.OpenSpec := { _root_.Go.OpenSpec.ofChange s with cond := some uptoSmall }

/-- 'tombolalaw13.PoolRows', WHERE WHAT IT READS IS OF BULK AT MOST 1048576: true; the input reads as it did. -/
def poolRowsUptoRow : OpenClaim := { program := "ytkfioaoooodmnaa", sum := "51a0d8de5e91c2c8abe41145237090d047247f4c6f04d801e94962fcbf7eba80", func := "tombola/tombolalaw13.PoolRows", spec := "poolRows", inPlace := ["math/bits.Add64", "math/bits.Sub64"], unfollowed := true, recurses := true, named := ["math/bits.divideError", "math/bits.overflowError"], apart := false, narrowed := true }
def PoolRowsUptoSaid : Prop := poolRowsUptoRow.holds Try.pinned (OpenSpec.upto poolRowsSpec)

/-- 'tombolalaw13.PoolEven', WHERE WHAT IT READS IS OF BULK AT MOST 1048576: true; the input reads as it did. -/
def poolEvenUptoRow : OpenClaim := { program := "ytkfioaoooodmnaa", sum := "51a0d8de5e91c2c8abe41145237090d047247f4c6f04d801e94962fcbf7eba80", func := "tombola/tombolalaw13.PoolEven", spec := "poolEven", inPlace := ["math/bits.Add64", "math/bits.Sub64"], unfollowed := true, recurses := true, named := ["math/bits.divideError", "math/bits.overflowError"], apart := false, narrowed := true }
def PoolEvenUptoSaid : Prop := poolEvenUptoRow.holds Try.pinned (OpenSpec.upto poolEvenSpec)

/-- 'tombolalaw13.PoolRises', WHERE WHAT IT READS IS OF BULK AT MOST 1048576: true; the input reads as it did. -/
def poolRisesUptoRow : OpenClaim := { program := "ytkfioaoooodmnaa", sum := "51a0d8de5e91c2c8abe41145237090d047247f4c6f04d801e94962fcbf7eba80", func := "tombola/tombolalaw13.PoolRises", spec := "poolRises", inPlace := ["math/bits.Add64", "math/bits.Sub64"], unfollowed := true, recurses := true, named := ["math/bits.divideError", "math/bits.overflowError"], apart := false, narrowed := true }
def PoolRisesUptoSaid : Prop := poolRisesUptoRow.holds Try.pinned (OpenSpec.upto poolRisesSpec)

/-- 'tombolalaw13.PoolChoices', WHERE WHAT IT READS IS OF BULK AT MOST 1048576: true; the input reads as it did. -/
def poolChoicesUptoRow : OpenClaim := { program := "ytkfioaoooodmnaa", sum := "51a0d8de5e91c2c8abe41145237090d047247f4c6f04d801e94962fcbf7eba80", func := "tombola/tombolalaw13.PoolChoices", spec := "poolChoices", inPlace := ["math/bits.Add64", "math/bits.Sub64"], unfollowed := true, recurses := true, named := ["math/bits.divideError", "math/bits.overflowError"], apart := false, narrowed := true }
def PoolChoicesUptoSaid : Prop := poolChoicesUptoRow.holds Try.pinned (OpenSpec.upto poolChoicesSpec)

/-- 'tombolalaw13.PoolSums', WHERE WHAT IT READS IS OF BULK AT MOST 1048576: true; the input reads as it did. -/
def poolSumsUptoRow : OpenClaim := { program := "ytkfioaoooodmnaa", sum := "51a0d8de5e91c2c8abe41145237090d047247f4c6f04d801e94962fcbf7eba80", func := "tombola/tombolalaw13.PoolSums", spec := "poolSums", inPlace := ["math/bits.Add64", "math/bits.Sub64"], unfollowed := true, recurses := true, named := ["math/bits.divideError", "math/bits.overflowError"], apart := false, narrowed := true }
def PoolSumsUptoSaid : Prop := poolSumsUptoRow.holds Try.pinned (OpenSpec.upto poolSumsSpec)

/-- 'tombolalaw13.PoolMore', WHERE WHAT IT READS IS OF BULK AT MOST 1048576: true; the input reads as it did. -/
def poolMoreUptoRow : OpenClaim := { program := "ytkfioaoooodmnaa", sum := "51a0d8de5e91c2c8abe41145237090d047247f4c6f04d801e94962fcbf7eba80", func := "tombola/tombolalaw13.PoolMore", spec := "poolMore", inPlace := ["math/bits.Add64", "math/bits.Sub64"], unfollowed := true, recurses := true, named := ["math/bits.divideError", "math/bits.overflowError"], apart := false, narrowed := true }
def PoolMoreUptoSaid : Prop := poolMoreUptoRow.holds Try.pinned (OpenSpec.upto poolMoreSpec)

/-- 'tombolalaw13.PoolNames', WHERE WHAT IT READS IS OF BULK AT MOST 1048576: true; the input reads as it did. -/
def poolNamesUptoRow : OpenClaim := { program := "ytkfioaoooodmnaa", sum := "51a0d8de5e91c2c8abe41145237090d047247f4c6f04d801e94962fcbf7eba80", func := "tombola/tombolalaw13.PoolNames", spec := "poolNames", inPlace := ["math/bits.Add64", "math/bits.Sub64"], unfollowed := true, recurses := true, named := ["math/bits.divideError", "math/bits.overflowError"], apart := false, narrowed := true }
def PoolNamesUptoSaid : Prop := poolNamesUptoRow.holds Try.pinned (OpenSpec.upto poolNamesSpec)

/-- 'tombolalaw13.PoolNumbers', WHERE WHAT IT READS IS OF BULK AT MOST 1048576: true; the input reads as it did. -/
def poolNumbersUptoRow : OpenClaim := { program := "ytkfioaoooodmnaa", sum := "51a0d8de5e91c2c8abe41145237090d047247f4c6f04d801e94962fcbf7eba80", func := "tombola/tombolalaw13.PoolNumbers", spec := "poolNumbers", inPlace := ["math/bits.Add64", "math/bits.Sub64"], unfollowed := true, recurses := true, named := ["math/bits.divideError", "math/bits.overflowError"], apart := false, narrowed := true }
def PoolNumbersUptoSaid : Prop := poolNumbersUptoRow.holds Try.pinned (OpenSpec.upto poolNumbersSpec)

end Rows
end Go.Proofs.Ytkfioaoooodmnaa
