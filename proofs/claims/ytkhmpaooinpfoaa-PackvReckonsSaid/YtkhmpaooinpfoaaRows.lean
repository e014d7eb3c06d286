/-
  No cell of these rows narrows 'for every input' (looked for: loops, veiled, ifaces, maps, wideKeys, modest, calm, conditions, laid).
  DERIVED. THE GIVEN ROWS OF THIS SEAT. 8 by the template 'for every input the law returns true; each argument reads behind the call as it read before'; 0 by the template 'total and deterministic' (their statements: YtkhmpaooinpfoaaTotals.lean).
  GIVEN WITH THE SEED: the statements are not yours to turn. If you find one false, say at which input.
  Laid BY PROGRAM, IN A SANDBOX (cutbox-rows.mjs): the forced cells as the released guide's own fill.sh prints them over the translation 80d3af1534dc8ee3… (all of the seat's roots in one cut). By AI agents, Wed Nov 11 2026. No macro, syntax, notation, axiom, sorry.
-/
import Derived.Test.YtkhmpaooinpfoaaChecked
import GoSem.Claim
import GoSem.ClaimJoined
import GoSem.ClaimMapViews
import Derived.JoinedTies
import Derived.KernelRfl
namespace Go.Proofs.Ytkhmpaooinpfoaa
/- THE CELL 'sum', in the pinned program and in every row, IS THE sha256 OF THE DUMP (.gsa) THAT YtkhmpaooinpfoaaProg.lean LOADS. Nothing in Lean hashes anything: it is a label: what it is worth is what the hold of that sum in a sandbox is worth. -/
noncomputable def Try.pinned : Pinned := { name := "ytkhmpaooinpfoaa", sum := "80d3af1534dc8ee32f751bacd7d72390f3b41d14e624808517b85f0e0aeb6cd9", checked := Try.checked }
namespace Rows
def none {H : Type} : Left H := { results := [], args := [] }

/-- 'steeplelaw18.TurnSigns': WHATEVER THE INPUT: true; the input reads as it did. -/
def turnSignsSpec : ChangeSpec := { name := "turnSigns", fn := fun _ => fun
  | [d1, d2, d3] => { results := [.lit (.bool true)], args := [d1, d2, d3] }
  | _ => none }
def turnSignsRow : OpenClaim := { program := "ytkhmpaooinpfoaa", sum := "80d3af1534dc8ee32f751bacd7d72390f3b41d14e624808517b85f0e0aeb6cd9", func := "steeple/steeplelaw18.TurnSigns", spec := "turnSigns", unfollowed := true, recurses := true, apart := false }
def TurnSignsSaid : Prop := turnSignsRow.holds Try.pinned (OpenSpec.ofChange turnSignsSpec)

/-- ITS FALSE NEIGHBOUR: 'it returns false'. Refute it at one input. -/
def turnSignsWrong : ChangeSpec := { name := "turnSigns", fn := fun _ => fun
  | [d1, d2, d3] => { results := [.lit (.bool false)], args := [d1, d2, d3] }
  | _ => none }
def TurnSignsWrongFalsely : Prop := turnSignsRow.holds Try.pinned (OpenSpec.ofChange turnSignsWrong)

/-- 'steeplelaw09.WeaveColumns': WHATEVER THE INPUT: true; the input reads as it did. -/
def weaveColumnsSpec : ChangeSpec := { name := "weaveColumns", fn := fun _ => fun
  | [d1, d2, d3] => { results := [.lit (.bool true)], args := [d1, d2, d3] }
  | _ => none }
def weaveColumnsRow : OpenClaim := { program := "ytkhmpaooinpfoaa", sum := "80d3af1534dc8ee32f751bacd7d72390f3b41d14e624808517b85f0e0aeb6cd9", func := "steeple/steeplelaw09.WeaveColumns", spec := "weaveColumns", unfollowed := true, recurses := true, apart := false }
def WeaveColumnsSaid : Prop := weaveColumnsRow.holds Try.pinned (OpenSpec.ofChange weaveColumnsSpec)

/-- ITS FALSE NEIGHBOUR: 'it returns false'. Refute it at one input. -/
def weaveColumnsWrong : ChangeSpec := { name := "weaveColumns", fn := fun _ => fun
  | [d1, d2, d3] => { results := [.lit (.bool false)], args := [d1, d2, d3] }
  | _ => none }
def WeaveColumnsWrongFalsely : Prop := weaveColumnsRow.holds Try.pinned (OpenSpec.ofChange weaveColumnsWrong)

/-- 'steeplelaw22.ClaimTotals': WHATEVER THE INPUT: true; the input reads as it did. -/
def claimTotalsSpec : ChangeSpec := { name := "claimTotals", fn := fun _ => fun
  | [d1, d2] => { results := [.lit (.bool true)], args := [d1, d2] }
  | _ => none }
def claimTotalsRow : OpenClaim := { program := "ytkhmpaooinpfoaa", sum := "80d3af1534dc8ee32f751bacd7d72390f3b41d14e624808517b85f0e0aeb6cd9", func := "steeple/steeplelaw22.ClaimTotals", spec := "claimTotals", unfollowed := true, recurses := true, apart := false }
def ClaimTotalsSaid : Prop := claimTotalsRow.holds Try.pinned (OpenSpec.ofChange claimTotalsSpec)

/-- ITS FALSE NEIGHBOUR: 'it returns false'. Refute it at one input. -/
def claimTotalsWrong : ChangeSpec := { name := "claimTotals", fn := fun _ => fun
  | [d1, d2] => { results := [.lit (.bool false)], args := [d1, d2] }
  | _ => none }
def ClaimTotalsWrongFalsely : Prop := claimTotalsRow.holds Try.pinned (OpenSpec.ofChange claimTotalsWrong)

/-- 'steeplelaw18.TurnValues': WHATEVER THE INPUT: true; the input reads as it did. -/
def turnValuesSpec : ChangeSpec := { name := "turnValues", fn := fun _ => fun
  | [d1, d2, d3] => { results := [.lit (.bool true)], args := [d1, d2, d3] }
  | _ => none }
def turnValuesRow : OpenClaim := { program := "ytkhmpaooinpfoaa", sum := "80d3af1534dc8ee32f751bacd7d72390f3b41d14e624808517b85f0e0aeb6cd9", func := "steeple/steeplelaw18.TurnValues", spec := "turnValues", unfollowed := true, recurses := true, apart := false }
def TurnValuesSaid : Prop := turnValuesRow.holds Try.pinned (OpenSpec.ofChange turnValuesSpec)

/-- ITS FALSE NEIGHBOUR: 'it returns false'. Refute it at one input. -/
def turnValuesWrong : ChangeSpec := { name := "turnValues", fn := fun _ => fun
  | [d1, d2, d3] => { results := [.lit (.bool false)], args := [d1, d2, d3] }
  | _ => none }
def TurnValuesWrongFalsely : Prop := turnValuesRow.holds Try.pinned (OpenSpec.ofChange turnValuesWrong)

/-- 'steeplelaw19.PackvReckons': WHATEVER THE INPUT: true; the input reads as it did. -/
def packvReckonsSpec : ChangeSpec := { name := "packvReckons", fn := fun _ => fun
  | [d1, d2, d3] => { results := [.lit (.bool true)], args := [d1, d2, d3] }
  | _ => none }
def packvReckonsRow : OpenClaim := { program := "ytkhmpaooinpfoaa", sum := "80d3af1534dc8ee32f751bacd7d72390f3b41d14e624808517b85f0e0aeb6cd9", func := "steeple/steeplelaw19.PackvReckons", spec := "packvReckons", unfollowed := true, recurses := true, apart := false }
def PackvReckonsSaid : Prop := packvReckonsRow.holds Try.pinned (OpenSpec.ofChange packvReckonsSpec)

/-- ITS FALSE NEIGHBOUR: 'it returns false'. Refute it at one input. -/
def packvReckonsWrong : ChangeSpec := { name := "packvReckons", fn := fun _ => fun
  | [d1, d2, d3] => { results := [.lit (.bool false)], args := [d1, d2, d3] }
  | _ => none }
def PackvReckonsWrongFalsely : Prop := packvReckonsRow.holds Try.pinned (OpenSpec.ofChange packvReckonsWrong)

/-- 'steeplelaw19.PackvRing': WHATEVER THE INPUT: true; the input reads as it did. -/
def packvRingSpec : ChangeSpec := { name := "packvRing", fn := fun _ => fun
  | [d1, d2] => { results := [.lit (.bool true)], args := [d1, d2] }
  | _ => none }
def packvRingRow : OpenClaim := { program := "ytkhmpaooinpfoaa", sum := "80d3af1534dc8ee32f751bacd7d72390f3b41d14e624808517b85f0e0aeb6cd9", func := "steeple/steeplelaw19.PackvRing", spec := "packvRing", unfollowed := true, recurses := true, apart := false }
def PackvRingSaid : Prop := packvRingRow.holds Try.pinned (OpenSpec.ofChange packvRingSpec)

/-- ITS FALSE NEIGHBOUR: 'it returns false'. Refute it at one input. -/
def packvRingWrong : ChangeSpec := { name := "packvRing", fn := fun _ => fun
  | [d1, d2] => { results := [.lit (.bool false)], args := [d1, d2] }
  | _ => none }
def PackvRingWrongFalsely : Prop := packvRingRow.holds Try.pinned (OpenSpec.ofChange packvRingWrong)

/-- 'steeplelaw19.PackvAlike': WHATEVER THE INPUT: true; the input reads as it did. -/
def packvAlikeSpec : ChangeSpec := { name := "packvAlike", fn := fun _ => fun
  | [d1, d2, d3] => { results := [.lit (.bool true)], args := [d1, d2, d3] }
  | _ => none }
def packvAlikeRow : OpenClaim := { program := "ytkhmpaooinpfoaa", sum := "80d3af1534dc8ee32f751bacd7d72390f3b41d14e624808517b85f0e0aeb6cd9", func := "steeple/steeplelaw19.PackvAlike", spec := "packvAlike", unfollowed := true, recurses := true, apart := false }
def PackvAlikeSaid : Prop := packvAlikeRow.holds Try.pinned (OpenSpec.ofChange packvAlikeSpec)

/-- ITS FALSE NEIGHBOUR: 'it returns false'. Refute it at one input. -/
def packvAlikeWrong : ChangeSpec := { name := "packvAlike", fn := fun _ => fun
  | [d1, d2, d3] => { results := [.lit (.bool false)], args := [d1, d2, d3] }
  | _ => none }
def PackvAlikeWrongFalsely : Prop := packvAlikeRow.holds Try.pinned (OpenSpec.ofChange packvAlikeWrong)

/-- 'steeplelaw23.RingBatches': WHATEVER THE INPUT: true; the input reads as it did. -/
def ringBatchesSpec : ChangeSpec := { name := "ringBatches", fn := fun _ => fun
  | [d1, d2, d3] => { results := [.lit (.bool true)], args := [d1, d2, d3] }
  | _ => none }
def ringBatchesRow : OpenClaim := { program := "ytkhmpaooinpfoaa", sum := "80d3af1534dc8ee32f751bacd7d72390f3b41d14e624808517b85f0e0aeb6cd9", func := "steeple/steeplelaw23.RingBatches", spec := "ringBatches", unfollowed := true, recurses := true, apart := false }
def RingBatchesSaid : Prop := ringBatchesRow.holds Try.pinned (OpenSpec.ofChange ringBatchesSpec)

/-- ITS FALSE NEIGHBOUR: 'it returns false'. Refute it at one input. -/
def ringBatchesWrong : ChangeSpec := { name := "ringBatches", fn := fun _ => fun
  | [d1, d2, d3] => { results := [.lit (.bool false)], args := [d1, d2, d3] }
  | _ => none }
def RingBatchesWrongFalsely : Prop := ringBatchesRow.holds Try.pinned (OpenSpec.ofChange ringBatchesWrong)

/- THE SECOND FORM. 'bulk': how many values and letters a reading holds, each counted each time it is reached (what is shared counts as often as it is met; a slice's spare places count too). A statement '..UptoSaid' is the law's where the arguments, and the package variables that the reading takes, are together of bulk at most 1048576: NARROWER than '..Said'. Prove '..Said' where nothing that the law and all that it calls make is longer than what came in: it says more and counts as full. Else prove '..UptoSaid'. A law counts once. -/
mutual
def uptoBulk {H : Type} : DataW H → Nat
  | .lit (.string bytes) => bytes.length + 1
  | .lit _ => 1
  | .nil => 1
  | .ptr d => uptoBulk d + 1
  | .slice elems spare => uptoBulkAll elems + uptoBulkAll spare + 1
  | .agg parts => uptoBulkAll parts + 1
  | .iface _ d => uptoBulk d + 1
  | .map entries => uptoBulkEntries entries + 1
  | .held _ => 1
def uptoBulkAll {H : Type} : List (DataW H) → Nat
  | [] => 0
  | d :: r => uptoBulk d + uptoBulkAll r
def uptoBulkEntries {H : Type} : List (Lit × DataW H) → Nat
  | [] => 0
  | x :: r => uptoBulkEntry x + uptoBulkEntries r
def uptoBulkEntry {H : Type} : Lit × DataW H → Nat
  | (.string bytes, d) => bytes.length + uptoBulk d + 1
  | (_, d) => uptoBulk d + 1
 end
def uptoSmall : (H : Type) → List (DataW H) → Bool := fun _ ds => decide (uptoBulkAll ds ≤ 1048576)
def OpenSpec.upto (s : _root_.Go.ChangeSpec) : _root_.Go.OpenSpec := { _root_.Go.OpenSpec.ofChange s with cond := some uptoSmall }

/-- 'steeplelaw18.TurnSigns', WHERE WHAT IT READS IS OF BULK AT MOST 1048576: true; the input reads as it did. -/
def turnSignsUptoRow : OpenClaim := { program := "ytkhmpaooinpfoaa", sum := "80d3af1534dc8ee32f751bacd7d72390f3b41d14e624808517b85f0e0aeb6cd9", func := "steeple/steeplelaw18.TurnSigns", spec := "turnSigns", unfollowed := true, recurses := true, apart := false, narrowed := true }
def TurnSignsUptoSaid : Prop := turnSignsUptoRow.holds Try.pinned (OpenSpec.upto turnSignsSpec)

/-- 'steeplelaw09.WeaveColumns', WHERE WHAT IT READS IS OF BULK AT MOST 1048576: true; the input reads as it did. -/
def weaveColumnsUptoRow : OpenClaim := { program := "ytkhmpaooinpfoaa", sum := "80d3af1534dc8ee32f751bacd7d72390f3b41d14e624808517b85f0e0aeb6cd9", func := "steeple/steeplelaw09.WeaveColumns", spec := "weaveColumns", unfollowed := true, recurses := true, apart := false, narrowed := true }
def WeaveColumnsUptoSaid : Prop := weaveColumnsUptoRow.holds Try.pinned (OpenSpec.upto weaveColumnsSpec)

/-- 'steeplelaw22.ClaimTotals', WHERE WHAT IT READS IS OF BULK AT MOST 1048576: true; the input reads as it did. -/
def claimTotalsUptoRow : OpenClaim := { program := "ytkhmpaooinpfoaa", sum := "80d3af1534dc8ee32f751bacd7d72390f3b41d14e624808517b85f0e0aeb6cd9", func := "steeple/steeplelaw22.ClaimTotals", spec := "claimTotals", unfollowed := true, recurses := true, apart := false, narrowed := true }
def ClaimTotalsUptoSaid : Prop := claimTotalsUptoRow.holds Try.pinned (OpenSpec.upto claimTotalsSpec)

/-- 'steeplelaw18.TurnValues', WHERE WHAT IT READS IS OF BULK AT MOST 1048576: true; the input reads as it did. -/
def turnValuesUptoRow : OpenClaim := { program := "ytkhmpaooinpfoaa", sum := "80d3af1534dc8ee32f751bacd7d72390f3b41d14e624808517b85f0e0aeb6cd9", func := "steeple/steeplelaw18.TurnValues", spec := "turnValues", unfollowed := true, recurses := true, apart := false, narrowed := true }
def TurnValuesUptoSaid : Prop := turnValuesUptoRow.holds Try.pinned (OpenSpec.upto turnValuesSpec)

/-- 'steeplelaw19.PackvReckons', WHERE WHAT IT READS IS OF BULK AT MOST 1048576: true; the input reads as it did. -/
def packvReckonsUptoRow : OpenClaim := { program := "ytkhmpaooinpfoaa", sum := "80d3af1534dc8ee32f751bacd7d72390f3b41d14e624808517b85f0e0aeb6cd9", func := "steeple/steeplelaw19.PackvReckons", spec := "packvReckons", unfollowed := true, recurses := true, apart := false, narrowed := true }
def PackvReckonsUptoSaid : Prop := packvReckonsUptoRow.holds Try.pinned (OpenSpec.upto packvReckonsSpec)

/-- 'steeplelaw19.PackvRing', WHERE WHAT IT READS IS OF BULK AT MOST 1048576: true; the input reads as it did. -/
def packvRingUptoRow : OpenClaim := { program := "ytkhmpaooinpfoaa", sum := "80d3af1534dc8ee32f751bacd7d72390f3b41d14e624808517b85f0e0aeb6cd9", func := "steeple/steeplelaw19.PackvRing", spec := "packvRing", unfollowed := true, recurses := true, apart := false, narrowed := true }
def PackvRingUptoSaid : Prop := packvRingUptoRow.holds Try.pinned (OpenSpec.upto packvRingSpec)

/-- 'steeplelaw19.PackvAlike', WHERE WHAT IT READS IS OF BULK AT MOST 1048576: true; the input reads as it did. -/
def packvAlikeUptoRow : OpenClaim := { program := "ytkhmpaooinpfoaa", sum := "80d3af1534dc8ee32f751bacd7d72390f3b41d14e624808517b85f0e0aeb6cd9", func := "steeple/steeplelaw19.PackvAlike", spec := "packvAlike", unfollowed := true, recurses := true, apart := false, narrowed := true }
def PackvAlikeUptoSaid : Prop := packvAlikeUptoRow.holds Try.pinned (OpenSpec.upto packvAlikeSpec)

/-- 'steeplelaw23.RingBatches', WHERE WHAT IT READS IS OF BULK AT MOST 1048576: true; the input reads as it did. -/
def ringBatchesUptoRow : OpenClaim := { program := "ytkhmpaooinpfoaa", sum := "80d3af1534dc8ee32f751bacd7d72390f3b41d14e624808517b85f0e0aeb6cd9", func := "steeple/steeplelaw23.RingBatches", spec := "ringBatches", unfollowed := true, recurses := true, apart := false, narrowed := true }
def RingBatchesUptoSaid : Prop := ringBatchesUptoRow.holds Try.pinned (OpenSpec.upto ringBatchesSpec)

end Rows
end Go.Proofs.Ytkhmpaooinpfoaa
