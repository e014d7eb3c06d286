/-
  No cell of these rows narrows 'for every input' (looked for: loops, veiled, ifaces, maps, wideKeys, modest, calm, conditions, laid).
  DERIVED. THE GIVEN ROWS OF THIS SEAT. 9 by the template 'for every input the law returns true; each argument reads behind the call as it read before'; 0 by the template 'total and deterministic' (their statements: YtjajiedfhpacpaaTotals.lean).
  GIVEN WITH THE SEED: the statements are not yours to turn. If you find one false, say at which input.
  Laid BY PROGRAM, IN A SANDBOX (cutbox-rows.mjs): the forced cells as the released guide's own fill.sh prints them over the translation f9e4b24400e12577… (all of the seat's roots in one cut). By AI agents, Wed Nov 11 2026. No macro, syntax, notation, axiom, sorry.
-/
import Derived.Test.YtjajiedfhpacpaaChecked
import GoSem.Claim
import GoSem.ClaimJoined
import GoSem.ClaimMapViews
import Derived.JoinedTies
import Derived.KernelRfl
namespace Go.Proofs.Ytjajiedfhpacpaa
/- THE CELL 'sum', in the pinned program and in every row, IS THE sha256 OF THE DUMP (.gsa) THAT YtjajiedfhpacpaaProg.lean LOADS. Nothing in Lean hashes anything: it is a label: what it is worth is what the hold of that sum in a sandbox is worth. -/
noncomputable def Try.pinned : Pinned := { name := "ytjajiedfhpacpaa", sum := "f9e4b24400e125777285a6e08d945a1ef2d3fa56c79d3215db37f71ebde7ea43", checked := Try.checked }
namespace Rows
def none {H : Type} : Left H := { results := [], args := [] }

/-- 'steeplelaw07.AnttForward': WHATEVER THE INPUT: true; the input reads as it did. -/
def anttForwardSpec : ChangeSpec := { name := "anttForward", fn := fun _ => fun
  | [d] => { results := [.lit (.bool true)], args := [d] }
  | _ => none }
def anttForwardRow : OpenClaim := { program := "ytjajiedfhpacpaa", sum := "f9e4b24400e125777285a6e08d945a1ef2d3fa56c79d3215db37f71ebde7ea43", func := "steeple/steeplelaw07.AnttForward", spec := "anttForward", unfollowed := true, recurses := true, apart := false }
def AnttForwardSaid : Prop := anttForwardRow.holds Try.pinned (OpenSpec.ofChange anttForwardSpec)

/-- ITS FALSE NEIGHBOUR: 'it returns false'. Refute it at one input. -/
def anttForwardWrong : ChangeSpec := { name := "anttForward", fn := fun _ => fun
  | [d] => { results := [.lit (.bool false)], args := [d] }
  | _ => none }
def AnttForwardWrongFalsely : Prop := anttForwardRow.holds Try.pinned (OpenSpec.ofChange anttForwardWrong)

/-- 'steeplelaw07.AnttSums': WHATEVER THE INPUT: true; the input reads as it did. -/
def anttSumsSpec : ChangeSpec := { name := "anttSums", fn := fun _ => fun
  | [d1, d2, d3] => { results := [.lit (.bool true)], args := [d1, d2, d3] }
  | _ => none }
def anttSumsRow : OpenClaim := { program := "ytjajiedfhpacpaa", sum := "f9e4b24400e125777285a6e08d945a1ef2d3fa56c79d3215db37f71ebde7ea43", func := "steeple/steeplelaw07.AnttSums", spec := "anttSums", unfollowed := true, recurses := true, apart := false }
def AnttSumsSaid : Prop := anttSumsRow.holds Try.pinned (OpenSpec.ofChange anttSumsSpec)

/-- ITS FALSE NEIGHBOUR: 'it returns false'. Refute it at one input. -/
def anttSumsWrong : ChangeSpec := { name := "anttSums", fn := fun _ => fun
  | [d1, d2, d3] => { results := [.lit (.bool false)], args := [d1, d2, d3] }
  | _ => none }
def AnttSumsWrongFalsely : Prop := anttSumsRow.holds Try.pinned (OpenSpec.ofChange anttSumsWrong)

/-- 'steeplelaw07.AnttShifts': WHATEVER THE INPUT: true; the input reads as it did. -/
def anttShiftsSpec : ChangeSpec := { name := "anttShifts", fn := fun _ => fun
  | [d1, d2] => { results := [.lit (.bool true)], args := [d1, d2] }
  | _ => none }
def anttShiftsRow : OpenClaim := { program := "ytjajiedfhpacpaa", sum := "f9e4b24400e125777285a6e08d945a1ef2d3fa56c79d3215db37f71ebde7ea43", func := "steeple/steeplelaw07.AnttShifts", spec := "anttShifts", unfollowed := true, recurses := true, apart := false }
def AnttShiftsSaid : Prop := anttShiftsRow.holds Try.pinned (OpenSpec.ofChange anttShiftsSpec)

/-- ITS FALSE NEIGHBOUR: 'it returns false'. Refute it at one input. -/
def anttShiftsWrong : ChangeSpec := { name := "anttShifts", fn := fun _ => fun
  | [d1, d2] => { results := [.lit (.bool false)], args := [d1, d2] }
  | _ => none }
def AnttShiftsWrongFalsely : Prop := anttShiftsRow.holds Try.pinned (OpenSpec.ofChange anttShiftsWrong)

/-- 'steeplelaw07.AnttBack': WHATEVER THE INPUT: true; the input reads as it did. -/
def anttBackSpec : ChangeSpec := { name := "anttBack", fn := fun _ => fun
  | [d] => { results := [.lit (.bool true)], args := [d] }
  | _ => none }
def anttBackRow : OpenClaim := { program := "ytjajiedfhpacpaa", sum := "f9e4b24400e125777285a6e08d945a1ef2d3fa56c79d3215db37f71ebde7ea43", func := "steeple/steeplelaw07.AnttBack", spec := "anttBack", unfollowed := true, recurses := true, apart := false }
def AnttBackSaid : Prop := anttBackRow.holds Try.pinned (OpenSpec.ofChange anttBackSpec)

/-- ITS FALSE NEIGHBOUR: 'it returns false'. Refute it at one input. -/
def anttBackWrong : ChangeSpec := { name := "anttBack", fn := fun _ => fun
  | [d] => { results := [.lit (.bool false)], args := [d] }
  | _ => none }
def AnttBackWrongFalsely : Prop := anttBackRow.holds Try.pinned (OpenSpec.ofChange anttBackWrong)

/-- 'steeplelaw07.AnttNil': WHATEVER THE INPUT: true; the input reads as it did. -/
def anttNilSpec : ChangeSpec := { name := "anttNil", fn := fun _ => fun
  | [d1, d2, d3] => { results := [.lit (.bool true)], args := [d1, d2, d3] }
  | _ => none }
def anttNilRow : OpenClaim := { program := "ytjajiedfhpacpaa", sum := "f9e4b24400e125777285a6e08d945a1ef2d3fa56c79d3215db37f71ebde7ea43", func := "steeple/steeplelaw07.AnttNil", spec := "anttNil", unfollowed := true, recurses := true, apart := false }
def AnttNilSaid : Prop := anttNilRow.holds Try.pinned (OpenSpec.ofChange anttNilSpec)

/-- ITS FALSE NEIGHBOUR: 'it returns false'. Refute it at one input. -/
def anttNilWrong : ChangeSpec := { name := "anttNil", fn := fun _ => fun
  | [d1, d2, d3] => { results := [.lit (.bool false)], args := [d1, d2, d3] }
  | _ => none }
def AnttNilWrongFalsely : Prop := anttNilRow.holds Try.pinned (OpenSpec.ofChange anttNilWrong)

/-- 'steeplelaw06.NovelPowers': WHATEVER THE INPUT: true; the input reads as it did. -/
def novelPowersSpec : ChangeSpec := { name := "novelPowers", fn := fun _ => fun
  | [d1, d2, d3] => { results := [.lit (.bool true)], args := [d1, d2, d3] }
  | _ => none }
def novelPowersRow : OpenClaim := { program := "ytjajiedfhpacpaa", sum := "f9e4b24400e125777285a6e08d945a1ef2d3fa56c79d3215db37f71ebde7ea43", func := "steeple/steeplelaw06.NovelPowers", spec := "novelPowers", unfollowed := true, recurses := true, apart := false }
def NovelPowersSaid : Prop := novelPowersRow.holds Try.pinned (OpenSpec.ofChange novelPowersSpec)

/-- ITS FALSE NEIGHBOUR: 'it returns false'. Refute it at one input. -/
def novelPowersWrong : ChangeSpec := { name := "novelPowers", fn := fun _ => fun
  | [d1, d2, d3] => { results := [.lit (.bool false)], args := [d1, d2, d3] }
  | _ => none }
def NovelPowersWrongFalsely : Prop := novelPowersRow.holds Try.pinned (OpenSpec.ofChange novelPowersWrong)

/-- 'steeplelaw06.NovelValues': WHATEVER THE INPUT: true; the input reads as it did. -/
def novelValuesSpec : ChangeSpec := { name := "novelValues", fn := fun _ => fun
  | [d1, d2] => { results := [.lit (.bool true)], args := [d1, d2] }
  | _ => none }
def novelValuesRow : OpenClaim := { program := "ytjajiedfhpacpaa", sum := "f9e4b24400e125777285a6e08d945a1ef2d3fa56c79d3215db37f71ebde7ea43", func := "steeple/steeplelaw06.NovelValues", spec := "novelValues", unfollowed := true, recurses := true, apart := false }
def NovelValuesSaid : Prop := novelValuesRow.holds Try.pinned (OpenSpec.ofChange novelValuesSpec)

/-- ITS FALSE NEIGHBOUR: 'it returns false'. Refute it at one input. -/
def novelValuesWrong : ChangeSpec := { name := "novelValues", fn := fun _ => fun
  | [d1, d2] => { results := [.lit (.bool false)], args := [d1, d2] }
  | _ => none }
def NovelValuesWrongFalsely : Prop := novelValuesRow.holds Try.pinned (OpenSpec.ofChange novelValuesWrong)

/-- 'steeplelaw06.NovelErrs': WHATEVER THE INPUT: true; the input reads as it did. -/
def novelErrsSpec : ChangeSpec := { name := "novelErrs", fn := fun _ => fun
  | [d] => { results := [.lit (.bool true)], args := [d] }
  | _ => none }
def novelErrsRow : OpenClaim := { program := "ytjajiedfhpacpaa", sum := "f9e4b24400e125777285a6e08d945a1ef2d3fa56c79d3215db37f71ebde7ea43", func := "steeple/steeplelaw06.NovelErrs", spec := "novelErrs", unfollowed := true, recurses := true, apart := false }
def NovelErrsSaid : Prop := novelErrsRow.holds Try.pinned (OpenSpec.ofChange novelErrsSpec)

/-- ITS FALSE NEIGHBOUR: 'it returns false'. Refute it at one input. -/
def novelErrsWrong : ChangeSpec := { name := "novelErrs", fn := fun _ => fun
  | [d] => { results := [.lit (.bool false)], args := [d] }
  | _ => none }
def NovelErrsWrongFalsely : Prop := novelErrsRow.holds Try.pinned (OpenSpec.ofChange novelErrsWrong)

/-- 'steeplelaw06.NovelBack': WHATEVER THE INPUT: true; the input reads as it did. -/
def novelBackSpec : ChangeSpec := { name := "novelBack", fn := fun _ => fun
  | [d] => { results := [.lit (.bool true)], args := [d] }
  | _ => none }
def novelBackRow : OpenClaim := { program := "ytjajiedfhpacpaa", sum := "f9e4b24400e125777285a6e08d945a1ef2d3fa56c79d3215db37f71ebde7ea43", func := "steeple/steeplelaw06.NovelBack", spec := "novelBack", unfollowed := true, recurses := true, apart := false }
def NovelBackSaid : Prop := novelBackRow.holds Try.pinned (OpenSpec.ofChange novelBackSpec)

/-- ITS FALSE NEIGHBOUR: 'it returns false'. Refute it at one input. -/
def novelBackWrong : ChangeSpec := { name := "novelBack", fn := fun _ => fun
  | [d] => { results := [.lit (.bool false)], args := [d] }
  | _ => none }
def NovelBackWrongFalsely : Prop := novelBackRow.holds Try.pinned (OpenSpec.ofChange novelBackWrong)

/- THE SECOND FORM. 'bulk': how many values and letters a reading holds, each counted each time it is reached (what is shared counts as often as it is met; a slice's spare places count too). A statement '..UptoSaid' is the law's where the arguments, and the package variables that the reading takes, are together of bulk at most 1048576: NARROWER than '..Said'. Prove '..Said' where nothing that the law and all that it calls make is longer than what came in: it says more and counts as full. Else prove '..UptoSaid'. A law counts once. -/
mutual
def uptoBulk {H : Type} : DataW H → Nat
  | .lit (.string bytes) => bytes.length + 1
  | .lit _ => 1
  | .nil => 1
  | .ptr d => uptoBulk d + 1
  | .slice elems spare => uptoBulkAll elems + uptoBulkAll spare + 1
  | .agg parts => uptoBulkAll parts + 1
  | .iface _ d => uptoBulk d + 1
  | .map entries => uptoBulkEntries entries + 1
  | .held _ => 1
def uptoBulkAll {H : Type} : List (DataW H) → Nat
  | [] => 0
  | d :: r => uptoBulk d + uptoBulkAll r
def uptoBulkEntries {H : Type} : List (Lit × DataW H) → Nat
  | [] => 0
  | x :: r => uptoBulkEntry x + uptoBulkEntries r
def uptoBulkEntry {H : Type} : Lit × DataW H → Nat
  | (.string bytes, d) => bytes.length + uptoBulk d + 1
  | (_, d) => uptoBulk d + 1
 end
def uptoSmall : (H : Type) → List (DataW H) → Bool := fun _ ds => decide (uptoBulkAll ds ≤ 1048576)
def OpenSpec.upto (s : _root_.Go.ChangeSpec) : _root_.Go.OpenSpec := { _root_.Go.OpenSpec.ofChange s with cond := some uptoSmall }

/-- 'steeplelaw07.AnttForward', WHERE WHAT IT READS IS OF BULK AT MOST 1048576: true; the input reads as it did. -/
def anttForwardUptoRow : OpenClaim := { program := "ytjajiedfhpacpaa", sum := "f9e4b24400e125777285a6e08d945a1ef2d3fa56c79d3215db37f71ebde7ea43", func := "steeple/steeplelaw07.AnttForward", spec := "anttForward", unfollowed := true, recurses := true, apart := false, narrowed := true }
def AnttForwardUptoSaid : Prop := anttForwardUptoRow.holds Try.pinned (OpenSpec.upto anttForwardSpec)

/-- 'steeplelaw07.AnttSums', WHERE WHAT IT READS IS OF BULK AT MOST 1048576: true; the input reads as it did. -/
def anttSumsUptoRow : OpenClaim := { program := "ytjajiedfhpacpaa", sum := "f9e4b24400e125777285a6e08d945a1ef2d3fa56c79d3215db37f71ebde7ea43", func := "steeple/steeplelaw07.AnttSums", spec := "anttSums", unfollowed := true, recurses := true, apart := false, narrowed := true }
def AnttSumsUptoSaid : Prop := anttSumsUptoRow.holds Try.pinned (OpenSpec.upto anttSumsSpec)

/-- 'steeplelaw07.AnttShifts', WHERE WHAT IT READS IS OF BULK AT MOST 1048576: true; the input reads as it did. -/
def anttShiftsUptoRow : OpenClaim := { program := "ytjajiedfhpacpaa", sum := "f9e4b24400e125777285a6e08d945a1ef2d3fa56c79d3215db37f71ebde7ea43", func := "steeple/steeplelaw07.AnttShifts", spec := "anttShifts", unfollowed := true, recurses := true, apart := false, narrowed := true }
def AnttShiftsUptoSaid : Prop := anttShiftsUptoRow.holds Try.pinned (OpenSpec.upto anttShiftsSpec)

/-- 'steeplelaw07.AnttBack', WHERE WHAT IT READS IS OF BULK AT MOST 1048576: true; the input reads as it did. -/
def anttBackUptoRow : OpenClaim := { program := "ytjajiedfhpacpaa", sum := "f9e4b24400e125777285a6e08d945a1ef2d3fa56c79d3215db37f71ebde7ea43", func := "steeple/steeplelaw07.AnttBack", spec := "anttBack", unfollowed := true, recurses := true, apart := false, narrowed := true }
def AnttBackUptoSaid : Prop := anttBackUptoRow.holds Try.pinned (OpenSpec.upto anttBackSpec)

/-- 'steeplelaw07.AnttNil', WHERE WHAT IT READS IS OF BULK AT MOST 1048576: true; the input reads as it did. -/
def anttNilUptoRow : OpenClaim := { program := "ytjajiedfhpacpaa", sum := "f9e4b24400e125777285a6e08d945a1ef2d3fa56c79d3215db37f71ebde7ea43", func := "steeple/steeplelaw07.AnttNil", spec := "anttNil", unfollowed := true, recurses := true, apart := false, narrowed := true }
def AnttNilUptoSaid : Prop := anttNilUptoRow.holds Try.pinned (OpenSpec.upto anttNilSpec)

/-- 'steeplelaw06.NovelPowers', WHERE WHAT IT READS IS OF BULK AT MOST 1048576: true; the input reads as it did. -/
def novelPowersUptoRow : OpenClaim := { program := "ytjajiedfhpacpaa", sum := "f9e4b24400e125777285a6e08d945a1ef2d3fa56c79d3215db37f71ebde7ea43", func := "steeple/steeplelaw06.NovelPowers", spec := "novelPowers", unfollowed := true, recurses := true, apart := false, narrowed := true }
def NovelPowersUptoSaid : Prop := novelPowersUptoRow.holds Try.pinned (OpenSpec.upto novelPowersSpec)

/-- 'steeplelaw06.NovelValues', WHERE WHAT IT READS IS OF BULK AT MOST 1048576: true; the input reads as it did. -/
def novelValuesUptoRow : OpenClaim := { program := "ytjajiedfhpacpaa", sum := "f9e4b24400e125777285a6e08d945a1ef2d3fa56c79d3215db37f71ebde7ea43", func := "steeple/steeplelaw06.NovelValues", spec := "novelValues", unfollowed := true, recurses := true, apart := false, narrowed := true }
def NovelValuesUptoSaid : Prop := novelValuesUptoRow.holds Try.pinned (OpenSpec.upto novelValuesSpec)

/-- 'steeplelaw06.NovelErrs', WHERE WHAT IT READS IS OF BULK AT MOST 1048576: true; the input reads as it did. -/
def novelErrsUptoRow : OpenClaim := { program := "ytjajiedfhpacpaa", sum := "f9e4b24400e125777285a6e08d945a1ef2d3fa56c79d3215db37f71ebde7ea43", func := "steeple/steeplelaw06.NovelErrs", spec := "novelErrs", unfollowed := true, recurses := true, apart := false, narrowed := true }
def NovelErrsUptoSaid : Prop := novelErrsUptoRow.holds Try.pinned (OpenSpec.upto novelErrsSpec)

/-- 'steeplelaw06.NovelBack', WHERE WHAT IT READS IS OF BULK AT MOST 1048576: true; the input reads as it did. -/
def novelBackUptoRow : OpenClaim := { program := "ytjajiedfhpacpaa", sum := "f9e4b24400e125777285a6e08d945a1ef2d3fa56c79d3215db37f71ebde7ea43", func := "steeple/steeplelaw06.NovelBack", spec := "novelBack", unfollowed := true, recurses := true, apart := false, narrowed := true }
def NovelBackUptoSaid : Prop := novelBackUptoRow.holds Try.pinned (OpenSpec.upto novelBackSpec)

end Rows
end Go.Proofs.Ytjajiedfhpacpaa
