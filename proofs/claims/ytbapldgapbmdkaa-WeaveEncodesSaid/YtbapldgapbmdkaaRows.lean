/-
  No cell of these rows narrows 'for every input' (looked for: loops, veiled, ifaces, maps, wideKeys, modest, calm, conditions, laid).
  DERIVED. THE GIVEN ROWS OF THIS SEAT. 11 by the template 'for every input the law returns true; each argument reads behind the call as it read before'; 0 by the template 'total and deterministic' (their statements: YtbapldgapbmdkaaTotals.lean).
  GIVEN WITH THE SEED: the statements are not yours to turn. If you find one false, say at which input.
  Laid BY PROGRAM, IN A SANDBOX (cutbox-rows.mjs): the forced cells as the released guide's own fill.sh prints them over the translation 586db967928bceb8… (all of the seat's roots in one cut). By AI agents, Wed Nov 11 2026. No macro, syntax, notation, axiom, sorry.
-/
import Derived.Test.YtbapldgapbmdkaaChecked
import GoSem.Claim
import GoSem.ClaimJoined
import GoSem.ClaimMapViews
import Derived.JoinedTies
import Derived.KernelRfl
namespace Go.Proofs.Ytbapldgapbmdkaa
/- THE CELL 'sum', in the pinned program and in every row, IS THE sha256 OF THE DUMP (.gsa) THAT YtbapldgapbmdkaaProg.lean LOADS. Nothing in Lean hashes anything: it is a label: what it is worth is what the hold of that sum in a sandbox is worth. -/
noncomputable def Try.pinned : Pinned := { name := "ytbapldgapbmdkaa", sum := "586db967928bceb8954d771435b302ba33a4295e62e074ff3b3533e993f35d22", checked := Try.checked }
namespace Rows
def none {H : Type} : Left H := { results := [], args := [] }

/-- 'steepletop.TopWhole': WHATEVER THE INPUT: true; the input reads as it did. -/
def topWholeSpec : ChangeSpec := { name := "topWhole", fn := fun _ => fun
  | [d1, d2] => { results := [.lit (.bool true)], args := [d1, d2] }
  | _ => none }
def topWholeRow : OpenClaim := { program := "ytbapldgapbmdkaa", sum := "586db967928bceb8954d771435b302ba33a4295e62e074ff3b3533e993f35d22", func := "steeple/steepletop.TopWhole", spec := "topWhole", unfollowed := true, recurses := true, apart := false }
def TopWholeSaid : Prop := topWholeRow.holds Try.pinned (OpenSpec.ofChange topWholeSpec)

/-- ITS FALSE NEIGHBOUR: 'it returns false'. Refute it at one input. -/
def topWholeWrong : ChangeSpec := { name := "topWhole", fn := fun _ => fun
  | [d1, d2] => { results := [.lit (.bool false)], args := [d1, d2] }
  | _ => none }
def TopWholeWrongFalsely : Prop := topWholeRow.holds Try.pinned (OpenSpec.ofChange topWholeWrong)

/-- 'steeplelaw08.CodeMakes': WHATEVER THE INPUT: true; the input reads as it did. -/
def codeMakesSpec : ChangeSpec := { name := "codeMakes", fn := fun _ => fun
  | [d] => { results := [.lit (.bool true)], args := [d] }
  | _ => none }
def codeMakesRow : OpenClaim := { program := "ytbapldgapbmdkaa", sum := "586db967928bceb8954d771435b302ba33a4295e62e074ff3b3533e993f35d22", func := "steeple/steeplelaw08.CodeMakes", spec := "codeMakes", unfollowed := true, recurses := true, apart := false }
def CodeMakesSaid : Prop := codeMakesRow.holds Try.pinned (OpenSpec.ofChange codeMakesSpec)

/-- ITS FALSE NEIGHBOUR: 'it returns false'. Refute it at one input. -/
def codeMakesWrong : ChangeSpec := { name := "codeMakes", fn := fun _ => fun
  | [d] => { results := [.lit (.bool false)], args := [d] }
  | _ => none }
def CodeMakesWrongFalsely : Prop := codeMakesRow.holds Try.pinned (OpenSpec.ofChange codeMakesWrong)

/-- 'steeplelaw08.CodeSums': WHATEVER THE INPUT: true; the input reads as it did. -/
def codeSumsSpec : ChangeSpec := { name := "codeSums", fn := fun _ => fun
  | [d1, d2, d3] => { results := [.lit (.bool true)], args := [d1, d2, d3] }
  | _ => none }
def codeSumsRow : OpenClaim := { program := "ytbapldgapbmdkaa", sum := "586db967928bceb8954d771435b302ba33a4295e62e074ff3b3533e993f35d22", func := "steeple/steeplelaw08.CodeSums", spec := "codeSums", unfollowed := true, recurses := true, apart := false }
def CodeSumsSaid : Prop := codeSumsRow.holds Try.pinned (OpenSpec.ofChange codeSumsSpec)

/-- ITS FALSE NEIGHBOUR: 'it returns false'. Refute it at one input. -/
def codeSumsWrong : ChangeSpec := { name := "codeSums", fn := fun _ => fun
  | [d1, d2, d3] => { results := [.lit (.bool false)], args := [d1, d2, d3] }
  | _ => none }
def CodeSumsWrongFalsely : Prop := codeSumsRow.holds Try.pinned (OpenSpec.ofChange codeSumsWrong)

/-- 'steeplelaw08.CodeApart': WHATEVER THE INPUT: true; the input reads as it did. -/
def codeApartSpec : ChangeSpec := { name := "codeApart", fn := fun _ => fun
  | [d1, d2, d3] => { results := [.lit (.bool true)], args := [d1, d2, d3] }
  | _ => none }
def codeApartRow : OpenClaim := { program := "ytbapldgapbmdkaa", sum := "586db967928bceb8954d771435b302ba33a4295e62e074ff3b3533e993f35d22", func := "steeple/steeplelaw08.CodeApart", spec := "codeApart", unfollowed := true, recurses := true, apart := false }
def CodeApartSaid : Prop := codeApartRow.holds Try.pinned (OpenSpec.ofChange codeApartSpec)

/-- ITS FALSE NEIGHBOUR: 'it returns false'. Refute it at one input. -/
def codeApartWrong : ChangeSpec := { name := "codeApart", fn := fun _ => fun
  | [d1, d2, d3] => { results := [.lit (.bool false)], args := [d1, d2, d3] }
  | _ => none }
def CodeApartWrongFalsely : Prop := codeApartRow.holds Try.pinned (OpenSpec.ofChange codeApartWrong)

/-- 'steeplelaw08.CodeDecodes': WHATEVER THE INPUT: true; the input reads as it did. -/
def codeDecodesSpec : ChangeSpec := { name := "codeDecodes", fn := fun _ => fun
  | [d1, d2] => { results := [.lit (.bool true)], args := [d1, d2] }
  | _ => none }
def codeDecodesRow : OpenClaim := { program := "ytbapldgapbmdkaa", sum := "586db967928bceb8954d771435b302ba33a4295e62e074ff3b3533e993f35d22", func := "steeple/steeplelaw08.CodeDecodes", spec := "codeDecodes", unfollowed := true, recurses := true, apart := false }
def CodeDecodesSaid : Prop := codeDecodesRow.holds Try.pinned (OpenSpec.ofChange codeDecodesSpec)

/-- ITS FALSE NEIGHBOUR: 'it returns false'. Refute it at one input. -/
def codeDecodesWrong : ChangeSpec := { name := "codeDecodes", fn := fun _ => fun
  | [d1, d2] => { results := [.lit (.bool false)], args := [d1, d2] }
  | _ => none }
def CodeDecodesWrongFalsely : Prop := codeDecodesRow.holds Try.pinned (OpenSpec.ofChange codeDecodesWrong)

/-- 'steeplelaw08.CodeWords': WHATEVER THE INPUT: true; the input reads as it did. -/
def codeWordsSpec : ChangeSpec := { name := "codeWords", fn := fun _ => fun
  | [d1, d2, d3] => { results := [.lit (.bool true)], args := [d1, d2, d3] }
  | _ => none }
def codeWordsRow : OpenClaim := { program := "ytbapldgapbmdkaa", sum := "586db967928bceb8954d771435b302ba33a4295e62e074ff3b3533e993f35d22", func := "steeple/steeplelaw08.CodeWords", spec := "codeWords", unfollowed := true, recurses := true, apart := false }
def CodeWordsSaid : Prop := codeWordsRow.holds Try.pinned (OpenSpec.ofChange codeWordsSpec)

/-- ITS FALSE NEIGHBOUR: 'it returns false'. Refute it at one input. -/
def codeWordsWrong : ChangeSpec := { name := "codeWords", fn := fun _ => fun
  | [d1, d2, d3] => { results := [.lit (.bool false)], args := [d1, d2, d3] }
  | _ => none }
def CodeWordsWrongFalsely : Prop := codeWordsRow.holds Try.pinned (OpenSpec.ofChange codeWordsWrong)

/-- 'steeplelaw06.NovelErrs': WHATEVER THE INPUT: true; the input reads as it did. -/
def novelErrsSpec : ChangeSpec := { name := "novelErrs", fn := fun _ => fun
  | [d] => { results := [.lit (.bool true)], args := [d] }
  | _ => none }
def novelErrsRow : OpenClaim := { program := "ytbapldgapbmdkaa", sum := "586db967928bceb8954d771435b302ba33a4295e62e074ff3b3533e993f35d22", func := "steeple/steeplelaw06.NovelErrs", spec := "novelErrs", unfollowed := true, recurses := true, apart := false }
def NovelErrsSaid : Prop := novelErrsRow.holds Try.pinned (OpenSpec.ofChange novelErrsSpec)

/-- ITS FALSE NEIGHBOUR: 'it returns false'. Refute it at one input. -/
def novelErrsWrong : ChangeSpec := { name := "novelErrs", fn := fun _ => fun
  | [d] => { results := [.lit (.bool false)], args := [d] }
  | _ => none }
def NovelErrsWrongFalsely : Prop := novelErrsRow.holds Try.pinned (OpenSpec.ofChange novelErrsWrong)

/-- 'steeplelaw06.NovelBack': WHATEVER THE INPUT: true; the input reads as it did. -/
def novelBackSpec : ChangeSpec := { name := "novelBack", fn := fun _ => fun
  | [d] => { results := [.lit (.bool true)], args := [d] }
  | _ => none }
def novelBackRow : OpenClaim := { program := "ytbapldgapbmdkaa", sum := "586db967928bceb8954d771435b302ba33a4295e62e074ff3b3533e993f35d22", func := "steeple/steeplelaw06.NovelBack", spec := "novelBack", unfollowed := true, recurses := true, apart := false }
def NovelBackSaid : Prop := novelBackRow.holds Try.pinned (OpenSpec.ofChange novelBackSpec)

/-- ITS FALSE NEIGHBOUR: 'it returns false'. Refute it at one input. -/
def novelBackWrong : ChangeSpec := { name := "novelBack", fn := fun _ => fun
  | [d] => { results := [.lit (.bool false)], args := [d] }
  | _ => none }
def NovelBackWrongFalsely : Prop := novelBackRow.holds Try.pinned (OpenSpec.ofChange novelBackWrong)

/-- 'steeplelaw09.WeaveEncodes': WHATEVER THE INPUT: true; the input reads as it did. -/
def weaveEncodesSpec : ChangeSpec := { name := "weaveEncodes", fn := fun _ => fun
  | [d1, d2, d3] => { results := [.lit (.bool true)], args := [d1, d2, d3] }
  | _ => none }
def weaveEncodesRow : OpenClaim := { program := "ytbapldgapbmdkaa", sum := "586db967928bceb8954d771435b302ba33a4295e62e074ff3b3533e993f35d22", func := "steeple/steeplelaw09.WeaveEncodes", spec := "weaveEncodes", unfollowed := true, recurses := true, apart := false }
def WeaveEncodesSaid : Prop := weaveEncodesRow.holds Try.pinned (OpenSpec.ofChange weaveEncodesSpec)

/-- ITS FALSE NEIGHBOUR: 'it returns false'. Refute it at one input. -/
def weaveEncodesWrong : ChangeSpec := { name := "weaveEncodes", fn := fun _ => fun
  | [d1, d2, d3] => { results := [.lit (.bool false)], args := [d1, d2, d3] }
  | _ => none }
def WeaveEncodesWrongFalsely : Prop := weaveEncodesRow.holds Try.pinned (OpenSpec.ofChange weaveEncodesWrong)

/-- 'steeplelaw08.CodeFills': WHATEVER THE INPUT: true; the input reads as it did. -/
def codeFillsSpec : ChangeSpec := { name := "codeFills", fn := fun _ => fun
  | [d1, d2, d3] => { results := [.lit (.bool true)], args := [d1, d2, d3] }
  | _ => none }
def codeFillsRow : OpenClaim := { program := "ytbapldgapbmdkaa", sum := "586db967928bceb8954d771435b302ba33a4295e62e074ff3b3533e993f35d22", func := "steeple/steeplelaw08.CodeFills", spec := "codeFills", unfollowed := true, recurses := true, apart := false }
def CodeFillsSaid : Prop := codeFillsRow.holds Try.pinned (OpenSpec.ofChange codeFillsSpec)

/-- ITS FALSE NEIGHBOUR: 'it returns false'. Refute it at one input. -/
def codeFillsWrong : ChangeSpec := { name := "codeFills", fn := fun _ => fun
  | [d1, d2, d3] => { results := [.lit (.bool false)], args := [d1, d2, d3] }
  | _ => none }
def CodeFillsWrongFalsely : Prop := codeFillsRow.holds Try.pinned (OpenSpec.ofChange codeFillsWrong)

/-- 'steeplelaw08.CodeNil': WHATEVER THE INPUT: true; the input reads as it did. -/
def codeNilSpec : ChangeSpec := { name := "codeNil", fn := fun _ => fun
  | [d1, d2] => { results := [.lit (.bool true)], args := [d1, d2] }
  | _ => none }
def codeNilRow : OpenClaim := { program := "ytbapldgapbmdkaa", sum := "586db967928bceb8954d771435b302ba33a4295e62e074ff3b3533e993f35d22", func := "steeple/steeplelaw08.CodeNil", spec := "codeNil", unfollowed := true, recurses := true, apart := false }
def CodeNilSaid : Prop := codeNilRow.holds Try.pinned (OpenSpec.ofChange codeNilSpec)

/-- ITS FALSE NEIGHBOUR: 'it returns false'. Refute it at one input. -/
def codeNilWrong : ChangeSpec := { name := "codeNil", fn := fun _ => fun
  | [d1, d2] => { results := [.lit (.bool false)], args := [d1, d2] }
  | _ => none }
def CodeNilWrongFalsely : Prop := codeNilRow.holds Try.pinned (OpenSpec.ofChange codeNilWrong)

/- THE SECOND FORM. 'bulk': how many values and letters a reading holds, each counted each time it is reached (what is shared counts as often as it is met; a slice's spare places count too). A statement '..UptoSaid' is the law's where the arguments, and the package variables that the reading takes, are together of bulk at most 1048576: NARROWER than '..Said'. Prove '..Said' where nothing that the law and all that it calls make is longer than what came in: it says more and counts as full. Else prove '..UptoSaid'. A law counts once. -/
mutual
def uptoBulk {H : Type} : DataW H → Nat
  | .lit (.string bytes) => bytes.length + 1
  | .lit _ => 1
  | .nil => 1
  | .ptr d => uptoBulk d + 1
  | .slice elems spare => uptoBulkAll elems + uptoBulkAll spare + 1
  | .agg parts => uptoBulkAll parts + 1
  | .iface _ d => uptoBulk d + 1
  | .map entries => uptoBulkEntries entries + 1
  | .held _ => 1
def uptoBulkAll {H : Type} : List (DataW H) → Nat
  | [] => 0
  | d :: r => uptoBulk d + uptoBulkAll r
def uptoBulkEntries {H : Type} : List (Lit × DataW H) → Nat
  | [] => 0
  | x :: r => uptoBulkEntry x + uptoBulkEntries r
def uptoBulkEntry {H : Type} : Lit × DataW H → Nat
  | (.string bytes, d) => bytes.length + uptoBulk d + 1
  | (_, d) => uptoBulk d + 1
 end
def uptoSmall : (H : Type) → List (DataW H) → Bool := fun _ ds => decide (uptoBulkAll ds ≤ 1048576)
def OpenSpec.upto (s : _root_.Go.ChangeSpec) : _root_.Go.OpenSpec := { _root_.Go.OpenSpec.ofChange s with cond := some uptoSmall }

/-- 'steepletop.TopWhole', WHERE WHAT IT READS IS OF BULK AT MOST 1048576: true; the input reads as it did. -/
def topWholeUptoRow : OpenClaim := { program := "ytbapldgapbmdkaa", sum := "586db967928bceb8954d771435b302ba33a4295e62e074ff3b3533e993f35d22", func := "steeple/steepletop.TopWhole", spec := "topWhole", unfollowed := true, recurses := true, apart := false, narrowed := true }
def TopWholeUptoSaid : Prop := topWholeUptoRow.holds Try.pinned (OpenSpec.upto topWholeSpec)

/-- 'steeplelaw08.CodeMakes', WHERE WHAT IT READS IS OF BULK AT MOST 1048576: true; the input reads as it did. -/
def codeMakesUptoRow : OpenClaim := { program := "ytbapldgapbmdkaa", sum := "586db967928bceb8954d771435b302ba33a4295e62e074ff3b3533e993f35d22", func := "steeple/steeplelaw08.CodeMakes", spec := "codeMakes", unfollowed := true, recurses := true, apart := false, narrowed := true }
def CodeMakesUptoSaid : Prop := codeMakesUptoRow.holds Try.pinned (OpenSpec.upto codeMakesSpec)

/-- 'steeplelaw08.CodeSums', WHERE WHAT IT READS IS OF BULK AT MOST 1048576: true; the input reads as it did. -/
def codeSumsUptoRow : OpenClaim := { program := "ytbapldgapbmdkaa", sum := "586db967928bceb8954d771435b302ba33a4295e62e074ff3b3533e993f35d22", func := "steeple/steeplelaw08.CodeSums", spec := "codeSums", unfollowed := true, recurses := true, apart := false, narrowed := true }
def CodeSumsUptoSaid : Prop := codeSumsUptoRow.holds Try.pinned (OpenSpec.upto codeSumsSpec)

/-- 'steeplelaw08.CodeApart', WHERE WHAT IT READS IS OF BULK AT MOST 1048576: true; the input reads as it did. -/
def codeApartUptoRow : OpenClaim := { program := "ytbapldgapbmdkaa", sum := "586db967928bceb8954d771435b302ba33a4295e62e074ff3b3533e993f35d22", func := "steeple/steeplelaw08.CodeApart", spec := "codeApart", unfollowed := true, recurses := true, apart := false, narrowed := true }
def CodeApartUptoSaid : Prop := codeApartUptoRow.holds Try.pinned (OpenSpec.upto codeApartSpec)

/-- 'steeplelaw08.CodeDecodes', WHERE WHAT IT READS IS OF BULK AT MOST 1048576: true; the input reads as it did. -/
def codeDecodesUptoRow : OpenClaim := { program := "ytbapldgapbmdkaa", sum := "586db967928bceb8954d771435b302ba33a4295e62e074ff3b3533e993f35d22", func := "steeple/steeplelaw08.CodeDecodes", spec := "codeDecodes", unfollowed := true, recurses := true, apart := false, narrowed := true }
def CodeDecodesUptoSaid : Prop := codeDecodesUptoRow.holds Try.pinned (OpenSpec.upto codeDecodesSpec)

/-- 'steeplelaw08.CodeWords', WHERE WHAT IT READS IS OF BULK AT MOST 1048576: true; the input reads as it did. -/
def codeWordsUptoRow : OpenClaim := { program := "ytbapldgapbmdkaa", sum := "586db967928bceb8954d771435b302ba33a4295e62e074ff3b3533e993f35d22", func := "steeple/steeplelaw08.CodeWords", spec := "codeWords", unfollowed := true, recurses := true, apart := false, narrowed := true }
def CodeWordsUptoSaid : Prop := codeWordsUptoRow.holds Try.pinned (OpenSpec.upto codeWordsSpec)

/-- 'steeplelaw06.NovelErrs', WHERE WHAT IT READS IS OF BULK AT MOST 1048576: true; the input reads as it did. -/
def novelErrsUptoRow : OpenClaim := { program := "ytbapldgapbmdkaa", sum := "586db967928bceb8954d771435b302ba33a4295e62e074ff3b3533e993f35d22", func := "steeple/steeplelaw06.NovelErrs", spec := "novelErrs", unfollowed := true, recurses := true, apart := false, narrowed := true }
def NovelErrsUptoSaid : Prop := novelErrsUptoRow.holds Try.pinned (OpenSpec.upto novelErrsSpec)

/-- 'steeplelaw06.NovelBack', WHERE WHAT IT READS IS OF BULK AT MOST 1048576: true; the input reads as it did. -/
def novelBackUptoRow : OpenClaim := { program := "ytbapldgapbmdkaa", sum := "586db967928bceb8954d771435b302ba33a4295e62e074ff3b3533e993f35d22", func := "steeple/steeplelaw06.NovelBack", spec := "novelBack", unfollowed := true, recurses := true, apart := false, narrowed := true }
def NovelBackUptoSaid : Prop := novelBackUptoRow.holds Try.pinned (OpenSpec.upto novelBackSpec)

/-- 'steeplelaw09.WeaveEncodes', WHERE WHAT IT READS IS OF BULK AT MOST 1048576: true; the input reads as it did. -/
def weaveEncodesUptoRow : OpenClaim := { program := "ytbapldgapbmdkaa", sum := "586db967928bceb8954d771435b302ba33a4295e62e074ff3b3533e993f35d22", func := "steeple/steeplelaw09.WeaveEncodes", spec := "weaveEncodes", unfollowed := true, recurses := true, apart := false, narrowed := true }
def WeaveEncodesUptoSaid : Prop := weaveEncodesUptoRow.holds Try.pinned (OpenSpec.upto weaveEncodesSpec)

/-- 'steeplelaw08.CodeFills', WHERE WHAT IT READS IS OF BULK AT MOST 1048576: true; the input reads as it did. -/
def codeFillsUptoRow : OpenClaim := { program := "ytbapldgapbmdkaa", sum := "586db967928bceb8954d771435b302ba33a4295e62e074ff3b3533e993f35d22", func := "steeple/steeplelaw08.CodeFills", spec := "codeFills", unfollowed := true, recurses := true, apart := false, narrowed := true }
def CodeFillsUptoSaid : Prop := codeFillsUptoRow.holds Try.pinned (OpenSpec.upto codeFillsSpec)

/-- 'steeplelaw08.CodeNil', WHERE WHAT IT READS IS OF BULK AT MOST 1048576: true; the input reads as it did. -/
def codeNilUptoRow : OpenClaim := { program := "ytbapldgapbmdkaa", sum := "586db967928bceb8954d771435b302ba33a4295e62e074ff3b3533e993f35d22", func := "steeple/steeplelaw08.CodeNil", spec := "codeNil", unfollowed := true, recurses := true, apart := false, narrowed := true }
def CodeNilUptoSaid : Prop := codeNilUptoRow.holds Try.pinned (OpenSpec.upto codeNilSpec)

end Rows
end Go.Proofs.Ytbapldgapbmdkaa
