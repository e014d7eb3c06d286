/-
  No cell of these rows narrows 'for every input' (looked for: loops, veiled, ifaces, maps, wideKeys, modest, calm, conditions, laid).
  DERIVED. THE GIVEN ROWS OF THIS SEAT. 12 by the template 'for every input the law returns true; each argument reads behind the call as it read before'; 0 by the template 'total and deterministic' (their statements: YtdpbogooceiaaaaTotals.lean).
  GIVEN WITH THE SEED: the statements are not yours to turn. If you find one false, say at which input.
  Laid BY PROGRAM, IN A SANDBOX (cutbox-rows.mjs): the forced cells as the released guide's own fill.sh prints them over the translation d292f8a651595209… (all of the seat's roots in one cut). By AI agents, Wed Nov 11 2026. No macro, syntax, notation, axiom, sorry.
-/
import Derived.Test.YtdpbogooceiaaaaChecked
import GoSem.Claim
import GoSem.ClaimJoined
import GoSem.ClaimMapViews
import Derived.JoinedTies
import Derived.KernelRfl
namespace Go.Proofs.Ytdpbogooceiaaaa
/- THE CELL 'sum', in the pinned program and in every row, IS THE sha256 OF THE DUMP (.gsa) THAT YtdpbogooceiaaaaProg.lean LOADS. Nothing in Lean hashes anything: it is a label: what it is worth is what the hold of that sum in a sandbox is worth. -/
noncomputable def Try.pinned : Pinned := { name := "ytdpbogooceiaaaa", sum := "d292f8a651595209af6a38f76e1fce5303b78af79a1112630ec36a55514644c3", checked := Try.checked }
namespace Rows
def none {H : Type} : Left H := { results := [], args := [] }

/-- 'steeplelaw18.TurnValues': WHATEVER THE INPUT: true; the input reads as it did. -/
def turnValuesSpec : ChangeSpec := { name := "turnValues", fn := fun _ => fun
  | [d1, d2, d3] => { results := [.lit (.bool true)], args := [d1, d2, d3] }
  | _ => none }
def turnValuesRow : OpenClaim := { program := "ytdpbogooceiaaaa", sum := "d292f8a651595209af6a38f76e1fce5303b78af79a1112630ec36a55514644c3", func := "steeple/steeplelaw18.TurnValues", spec := "turnValues", unfollowed := true, recurses := true, apart := false }
def TurnValuesSaid : Prop := turnValuesRow.holds Try.pinned (OpenSpec.ofChange turnValuesSpec)

/-- ITS FALSE NEIGHBOUR: 'it returns false'. Refute it at one input. -/
def turnValuesWrong : ChangeSpec := { name := "turnValues", fn := fun _ => fun
  | [d1, d2, d3] => { results := [.lit (.bool false)], args := [d1, d2, d3] }
  | _ => none }
def TurnValuesWrongFalsely : Prop := turnValuesRow.holds Try.pinned (OpenSpec.ofChange turnValuesWrong)

/-- 'steeplelaw15.CubeBinds': WHATEVER THE INPUT: true; the input reads as it did. -/
def cubeBindsSpec : ChangeSpec := { name := "cubeBinds", fn := fun _ => fun
  | [d1, d2, d3] => { results := [.lit (.bool true)], args := [d1, d2, d3] }
  | _ => none }
def cubeBindsRow : OpenClaim := { program := "ytdpbogooceiaaaa", sum := "d292f8a651595209af6a38f76e1fce5303b78af79a1112630ec36a55514644c3", func := "steeple/steeplelaw15.CubeBinds", spec := "cubeBinds", unfollowed := true, recurses := true, apart := false }
def CubeBindsSaid : Prop := cubeBindsRow.holds Try.pinned (OpenSpec.ofChange cubeBindsSpec)

/-- ITS FALSE NEIGHBOUR: 'it returns false'. Refute it at one input. -/
def cubeBindsWrong : ChangeSpec := { name := "cubeBinds", fn := fun _ => fun
  | [d1, d2, d3] => { results := [.lit (.bool false)], args := [d1, d2, d3] }
  | _ => none }
def CubeBindsWrongFalsely : Prop := cubeBindsRow.holds Try.pinned (OpenSpec.ofChange cubeBindsWrong)

/-- 'steeplelaw19.PackvRing': WHATEVER THE INPUT: true; the input reads as it did. -/
def packvRingSpec : ChangeSpec := { name := "packvRing", fn := fun _ => fun
  | [d1, d2] => { results := [.lit (.bool true)], args := [d1, d2] }
  | _ => none }
def packvRingRow : OpenClaim := { program := "ytdpbogooceiaaaa", sum := "d292f8a651595209af6a38f76e1fce5303b78af79a1112630ec36a55514644c3", func := "steeple/steeplelaw19.PackvRing", spec := "packvRing", unfollowed := true, recurses := true, apart := false }
def PackvRingSaid : Prop := packvRingRow.holds Try.pinned (OpenSpec.ofChange packvRingSpec)

/-- ITS FALSE NEIGHBOUR: 'it returns false'. Refute it at one input. -/
def packvRingWrong : ChangeSpec := { name := "packvRing", fn := fun _ => fun
  | [d1, d2] => { results := [.lit (.bool false)], args := [d1, d2] }
  | _ => none }
def PackvRingWrongFalsely : Prop := packvRingRow.holds Try.pinned (OpenSpec.ofChange packvRingWrong)

/-- 'steeplelaw16.ExprOdd': WHATEVER THE INPUT: true; the input reads as it did. -/
def exprOddSpec : ChangeSpec := { name := "exprOdd", fn := fun _ => fun
  | [d1, d2] => { results := [.lit (.bool true)], args := [d1, d2] }
  | _ => none }
def exprOddRow : OpenClaim := { program := "ytdpbogooceiaaaa", sum := "d292f8a651595209af6a38f76e1fce5303b78af79a1112630ec36a55514644c3", func := "steeple/steeplelaw16.ExprOdd", spec := "exprOdd", recurses := true, apart := false }
def ExprOddSaid : Prop := exprOddRow.holds Try.pinned (OpenSpec.ofChange exprOddSpec)

/-- ITS FALSE NEIGHBOUR: 'it returns false'. Refute it at one input. -/
def exprOddWrong : ChangeSpec := { name := "exprOdd", fn := fun _ => fun
  | [d1, d2] => { results := [.lit (.bool false)], args := [d1, d2] }
  | _ => none }
def ExprOddWrongFalsely : Prop := exprOddRow.holds Try.pinned (OpenSpec.ofChange exprOddWrong)

/-- 'steeplelaw16.ExprTrees': WHATEVER THE INPUT: true; the input reads as it did. -/
def exprTreesSpec : ChangeSpec := { name := "exprTrees", fn := fun _ => fun
  | [d1, d2, d3] => { results := [.lit (.bool true)], args := [d1, d2, d3] }
  | _ => none }
def exprTreesRow : OpenClaim := { program := "ytdpbogooceiaaaa", sum := "d292f8a651595209af6a38f76e1fce5303b78af79a1112630ec36a55514644c3", func := "steeple/steeplelaw16.ExprTrees", spec := "exprTrees", recurses := true, apart := false }
def ExprTreesSaid : Prop := exprTreesRow.holds Try.pinned (OpenSpec.ofChange exprTreesSpec)

/-- ITS FALSE NEIGHBOUR: 'it returns false'. Refute it at one input. -/
def exprTreesWrong : ChangeSpec := { name := "exprTrees", fn := fun _ => fun
  | [d1, d2, d3] => { results := [.lit (.bool false)], args := [d1, d2, d3] }
  | _ => none }
def ExprTreesWrongFalsely : Prop := exprTreesRow.holds Try.pinned (OpenSpec.ofChange exprTreesWrong)

/-- 'steeplelaw22.ClaimTotals': WHATEVER THE INPUT: true; the input reads as it did. -/
def claimTotalsSpec : ChangeSpec := { name := "claimTotals", fn := fun _ => fun
  | [d1, d2] => { results := [.lit (.bool true)], args := [d1, d2] }
  | _ => none }
def claimTotalsRow : OpenClaim := { program := "ytdpbogooceiaaaa", sum := "d292f8a651595209af6a38f76e1fce5303b78af79a1112630ec36a55514644c3", func := "steeple/steeplelaw22.ClaimTotals", spec := "claimTotals", unfollowed := true, recurses := true, apart := false }
def ClaimTotalsSaid : Prop := claimTotalsRow.holds Try.pinned (OpenSpec.ofChange claimTotalsSpec)

/-- ITS FALSE NEIGHBOUR: 'it returns false'. Refute it at one input. -/
def claimTotalsWrong : ChangeSpec := { name := "claimTotals", fn := fun _ => fun
  | [d1, d2] => { results := [.lit (.bool false)], args := [d1, d2] }
  | _ => none }
def ClaimTotalsWrongFalsely : Prop := claimTotalsRow.holds Try.pinned (OpenSpec.ofChange claimTotalsWrong)

/-- 'steeplelaw22.ClaimCounts': WHATEVER THE INPUT: true; the input reads as it did. -/
def claimCountsSpec : ChangeSpec := { name := "claimCounts", fn := fun _ => fun
  | [d1, d2, d3] => { results := [.lit (.bool true)], args := [d1, d2, d3] }
  | _ => none }
def claimCountsRow : OpenClaim := { program := "ytdpbogooceiaaaa", sum := "d292f8a651595209af6a38f76e1fce5303b78af79a1112630ec36a55514644c3", func := "steeple/steeplelaw22.ClaimCounts", spec := "claimCounts", unfollowed := true, recurses := true, apart := false }
def ClaimCountsSaid : Prop := claimCountsRow.holds Try.pinned (OpenSpec.ofChange claimCountsSpec)

/-- ITS FALSE NEIGHBOUR: 'it returns false'. Refute it at one input. -/
def claimCountsWrong : ChangeSpec := { name := "claimCounts", fn := fun _ => fun
  | [d1, d2, d3] => { results := [.lit (.bool false)], args := [d1, d2, d3] }
  | _ => none }
def ClaimCountsWrongFalsely : Prop := claimCountsRow.holds Try.pinned (OpenSpec.ofChange claimCountsWrong)

/-- 'steeplelaw22.ClaimCorners': WHATEVER THE INPUT: true; the input reads as it did. -/
def claimCornersSpec : ChangeSpec := { name := "claimCorners", fn := fun _ => fun
  | [d1, d2, d3] => { results := [.lit (.bool true)], args := [d1, d2, d3] }
  | _ => none }
def claimCornersRow : OpenClaim := { program := "ytdpbogooceiaaaa", sum := "d292f8a651595209af6a38f76e1fce5303b78af79a1112630ec36a55514644c3", func := "steeple/steeplelaw22.ClaimCorners", spec := "claimCorners", unfollowed := true, recurses := true, apart := false }
def ClaimCornersSaid : Prop := claimCornersRow.holds Try.pinned (OpenSpec.ofChange claimCornersSpec)

/-- ITS FALSE NEIGHBOUR: 'it returns false'. Refute it at one input. -/
def claimCornersWrong : ChangeSpec := { name := "claimCorners", fn := fun _ => fun
  | [d1, d2, d3] => { results := [.lit (.bool false)], args := [d1, d2, d3] }
  | _ => none }
def ClaimCornersWrongFalsely : Prop := claimCornersRow.holds Try.pinned (OpenSpec.ofChange claimCornersWrong)

/-- 'steeplelaw22.ClaimTrue': WHATEVER THE INPUT: true; the input reads as it did. -/
def claimTrueSpec : ChangeSpec := { name := "claimTrue", fn := fun _ => fun
  | [d1, d2, d3] => { results := [.lit (.bool true)], args := [d1, d2, d3] }
  | _ => none }
def claimTrueRow : OpenClaim := { program := "ytdpbogooceiaaaa", sum := "d292f8a651595209af6a38f76e1fce5303b78af79a1112630ec36a55514644c3", func := "steeple/steeplelaw22.ClaimTrue", spec := "claimTrue", unfollowed := true, recurses := true, apart := false }
def ClaimTrueSaid : Prop := claimTrueRow.holds Try.pinned (OpenSpec.ofChange claimTrueSpec)

/-- ITS FALSE NEIGHBOUR: 'it returns false'. Refute it at one input. -/
def claimTrueWrong : ChangeSpec := { name := "claimTrue", fn := fun _ => fun
  | [d1, d2, d3] => { results := [.lit (.bool false)], args := [d1, d2, d3] }
  | _ => none }
def ClaimTrueWrongFalsely : Prop := claimTrueRow.holds Try.pinned (OpenSpec.ofChange claimTrueWrong)

/-- 'steeplelaw22.ClaimMasks': WHATEVER THE INPUT: true; the input reads as it did. -/
def claimMasksSpec : ChangeSpec := { name := "claimMasks", fn := fun _ => fun
  | [d1, d2, d3] => { results := [.lit (.bool true)], args := [d1, d2, d3] }
  | _ => none }
def claimMasksRow : OpenClaim := { program := "ytdpbogooceiaaaa", sum := "d292f8a651595209af6a38f76e1fce5303b78af79a1112630ec36a55514644c3", func := "steeple/steeplelaw22.ClaimMasks", spec := "claimMasks", unfollowed := true, recurses := true, apart := false }
def ClaimMasksSaid : Prop := claimMasksRow.holds Try.pinned (OpenSpec.ofChange claimMasksSpec)

/-- ITS FALSE NEIGHBOUR: 'it returns false'. Refute it at one input. -/
def claimMasksWrong : ChangeSpec := { name := "claimMasks", fn := fun _ => fun
  | [d1, d2, d3] => { results := [.lit (.bool false)], args := [d1, d2, d3] }
  | _ => none }
def ClaimMasksWrongFalsely : Prop := claimMasksRow.holds Try.pinned (OpenSpec.ofChange claimMasksWrong)

/-- 'steeplelaw23.RingMasks': WHATEVER THE INPUT: true; the input reads as it did. -/
def ringMasksSpec : ChangeSpec := { name := "ringMasks", fn := fun _ => fun
  | [d1, d2, d3] => { results := [.lit (.bool true)], args := [d1, d2, d3] }
  | _ => none }
def ringMasksRow : OpenClaim := { program := "ytdpbogooceiaaaa", sum := "d292f8a651595209af6a38f76e1fce5303b78af79a1112630ec36a55514644c3", func := "steeple/steeplelaw23.RingMasks", spec := "ringMasks", unfollowed := true, recurses := true, apart := false }
def RingMasksSaid : Prop := ringMasksRow.holds Try.pinned (OpenSpec.ofChange ringMasksSpec)

/-- ITS FALSE NEIGHBOUR: 'it returns false'. Refute it at one input. -/
def ringMasksWrong : ChangeSpec := { name := "ringMasks", fn := fun _ => fun
  | [d1, d2, d3] => { results := [.lit (.bool false)], args := [d1, d2, d3] }
  | _ => none }
def RingMasksWrongFalsely : Prop := ringMasksRow.holds Try.pinned (OpenSpec.ofChange ringMasksWrong)

/-- 'steeplelaw09.WeaveNone': WHATEVER THE INPUT: true; the input reads as it did. -/
def weaveNoneSpec : ChangeSpec := { name := "weaveNone", fn := fun _ => fun
  | [d] => { results := [.lit (.bool true)], args := [d] }
  | _ => none }
def weaveNoneRow : OpenClaim := { program := "ytdpbogooceiaaaa", sum := "d292f8a651595209af6a38f76e1fce5303b78af79a1112630ec36a55514644c3", func := "steeple/steeplelaw09.WeaveNone", spec := "weaveNone", unfollowed := true, recurses := true, apart := false }
def WeaveNoneSaid : Prop := weaveNoneRow.holds Try.pinned (OpenSpec.ofChange weaveNoneSpec)

/-- ITS FALSE NEIGHBOUR: 'it returns false'. Refute it at one input. -/
def weaveNoneWrong : ChangeSpec := { name := "weaveNone", fn := fun _ => fun
  | [d] => { results := [.lit (.bool false)], args := [d] }
  | _ => none }
def WeaveNoneWrongFalsely : Prop := weaveNoneRow.holds Try.pinned (OpenSpec.ofChange weaveNoneWrong)

/- THE SECOND FORM. 'bulk': how many values and letters a reading holds, each counted each time it is reached (what is shared counts as often as it is met; a slice's spare places count too). A statement '..UptoSaid' is the law's where the arguments, and the package variables that the reading takes, are together of bulk at most 1048576: NARROWER than '..Said'. Prove '..Said' where nothing that the law and all that it calls make is longer than what came in: it says more and counts as full. Else prove '..UptoSaid'. A law counts once. -/
mutual
def uptoBulk {H : Type} : DataW H → Nat
  | .lit (.string bytes) => bytes.length + 1
  | .lit _ => 1
  | .nil => 1
  | .ptr d => uptoBulk d + 1
  | .slice elems spare => uptoBulkAll elems + uptoBulkAll spare + 1
  | .agg parts => uptoBulkAll parts + 1
  | .iface _ d => uptoBulk d + 1
  | .map entries => uptoBulkEntries entries + 1
  | .held _ => 1
def uptoBulkAll {H : Type} : List (DataW H) → Nat
  | [] => 0
  | d :: r => uptoBulk d + uptoBulkAll r
def uptoBulkEntries {H : Type} : List (Lit × DataW H) → Nat
  | [] => 0
  | x :: r => uptoBulkEntry x + uptoBulkEntries r
def uptoBulkEntry {H : Type} : Lit × DataW H → Nat
  | (.string bytes, d) => bytes.length + uptoBulk d + 1
  | (_, d) => uptoBulk d + 1
 end
def uptoSmall : (H : Type) → List (DataW H) → Bool := fun _ ds => decide (uptoBulkAll ds ≤ 1048576)
def OpenSpec.upto (s : _root_.Go.ChangeSpec) : _root_.Go.OpenSpec := { _root_.Go.OpenSpec.ofChange s with cond := some uptoSmall }

/-- 'steeplelaw18.TurnValues', WHERE WHAT IT READS IS OF BULK AT MOST 1048576: true; the input reads as it did. -/
def turnValuesUptoRow : OpenClaim := { program := "ytdpbogooceiaaaa", sum := "d292f8a651595209af6a38f76e1fce5303b78af79a1112630ec36a55514644c3", func := "steeple/steeplelaw18.TurnValues", spec := "turnValues", unfollowed := true, recurses := true, apart := false, narrowed := true }
def TurnValuesUptoSaid : Prop := turnValuesUptoRow.holds Try.pinned (OpenSpec.upto turnValuesSpec)

/-- 'steeplelaw15.CubeBinds', WHERE WHAT IT READS IS OF BULK AT MOST 1048576: true; the input reads as it did. -/
def cubeBindsUptoRow : OpenClaim := { program := "ytdpbogooceiaaaa", sum := "d292f8a651595209af6a38f76e1fce5303b78af79a1112630ec36a55514644c3", func := "steeple/steeplelaw15.CubeBinds", spec := "cubeBinds", unfollowed := true, recurses := true, apart := false, narrowed := true }
def CubeBindsUptoSaid : Prop := cubeBindsUptoRow.holds Try.pinned (OpenSpec.upto cubeBindsSpec)

/-- 'steeplelaw19.PackvRing', WHERE WHAT IT READS IS OF BULK AT MOST 1048576: true; the input reads as it did. -/
def packvRingUptoRow : OpenClaim := { program := "ytdpbogooceiaaaa", sum := "d292f8a651595209af6a38f76e1fce5303b78af79a1112630ec36a55514644c3", func := "steeple/steeplelaw19.PackvRing", spec := "packvRing", unfollowed := true, recurses := true, apart := false, narrowed := true }
def PackvRingUptoSaid : Prop := packvRingUptoRow.holds Try.pinned (OpenSpec.upto packvRingSpec)

/-- 'steeplelaw16.ExprOdd', WHERE WHAT IT READS IS OF BULK AT MOST 1048576: true; the input reads as it did. -/
def exprOddUptoRow : OpenClaim := { program := "ytdpbogooceiaaaa", sum := "d292f8a651595209af6a38f76e1fce5303b78af79a1112630ec36a55514644c3", func := "steeple/steeplelaw16.ExprOdd", spec := "exprOdd", recurses := true, apart := false, narrowed := true }
def ExprOddUptoSaid : Prop := exprOddUptoRow.holds Try.pinned (OpenSpec.upto exprOddSpec)

/-- 'steeplelaw16.ExprTrees', WHERE WHAT IT READS IS OF BULK AT MOST 1048576: true; the input reads as it did. -/
def exprTreesUptoRow : OpenClaim := { program := "ytdpbogooceiaaaa", sum := "d292f8a651595209af6a38f76e1fce5303b78af79a1112630ec36a55514644c3", func := "steeple/steeplelaw16.ExprTrees", spec := "exprTrees", recurses := true, apart := false, narrowed := true }
def ExprTreesUptoSaid : Prop := exprTreesUptoRow.holds Try.pinned (OpenSpec.upto exprTreesSpec)

/-- 'steeplelaw22.ClaimTotals', WHERE WHAT IT READS IS OF BULK AT MOST 1048576: true; the input reads as it did. -/
def claimTotalsUptoRow : OpenClaim := { program := "ytdpbogooceiaaaa", sum := "d292f8a651595209af6a38f76e1fce5303b78af79a1112630ec36a55514644c3", func := "steeple/steeplelaw22.ClaimTotals", spec := "claimTotals", unfollowed := true, recurses := true, apart := false, narrowed := true }
def ClaimTotalsUptoSaid : Prop := claimTotalsUptoRow.holds Try.pinned (OpenSpec.upto claimTotalsSpec)

/-- 'steeplelaw22.ClaimCounts', WHERE WHAT IT READS IS OF BULK AT MOST 1048576: true; the input reads as it did. -/
def claimCountsUptoRow : OpenClaim := { program := "ytdpbogooceiaaaa", sum := "d292f8a651595209af6a38f76e1fce5303b78af79a1112630ec36a55514644c3", func := "steeple/steeplelaw22.ClaimCounts", spec := "claimCounts", unfollowed := true, recurses := true, apart := false, narrowed := true }
def ClaimCountsUptoSaid : Prop := claimCountsUptoRow.holds Try.pinned (OpenSpec.upto claimCountsSpec)

/-- 'steeplelaw22.ClaimCorners', WHERE WHAT IT READS IS OF BULK AT MOST 1048576: true; the input reads as it did. -/
def claimCornersUptoRow : OpenClaim := { program := "ytdpbogooceiaaaa", sum := "d292f8a651595209af6a38f76e1fce5303b78af79a1112630ec36a55514644c3", func := "steeple/steeplelaw22.ClaimCorners", spec := "claimCorners", unfollowed := true, recurses := true, apart := false, narrowed := true }
def ClaimCornersUptoSaid : Prop := claimCornersUptoRow.holds Try.pinned (OpenSpec.upto claimCornersSpec)

/-- 'steeplelaw22.ClaimTrue', WHERE WHAT IT READS IS OF BULK AT MOST 1048576: true; the input reads as it did. -/
def claimTrueUptoRow : OpenClaim := { program := "ytdpbogooceiaaaa", sum := "d292f8a651595209af6a38f76e1fce5303b78af79a1112630ec36a55514644c3", func := "steeple/steeplelaw22.ClaimTrue", spec := "claimTrue", unfollowed := true, recurses := true, apart := false, narrowed := true }
def ClaimTrueUptoSaid : Prop := claimTrueUptoRow.holds Try.pinned (OpenSpec.upto claimTrueSpec)

/-- 'steeplelaw22.ClaimMasks', WHERE WHAT IT READS IS OF BULK AT MOST 1048576: true; the input reads as it did. -/
def claimMasksUptoRow : OpenClaim := { program := "ytdpbogooceiaaaa", sum := "d292f8a651595209af6a38f76e1fce5303b78af79a1112630ec36a55514644c3", func := "steeple/steeplelaw22.ClaimMasks", spec := "claimMasks", unfollowed := true, recurses := true, apart := false, narrowed := true }
def ClaimMasksUptoSaid : Prop := claimMasksUptoRow.holds Try.pinned (OpenSpec.upto claimMasksSpec)

/-- 'steeplelaw23.RingMasks', WHERE WHAT IT READS IS OF BULK AT MOST 1048576: true; the input reads as it did. -/
def ringMasksUptoRow : OpenClaim := { program := "ytdpbogooceiaaaa", sum := "d292f8a651595209af6a38f76e1fce5303b78af79a1112630ec36a55514644c3", func := "steeple/steeplelaw23.RingMasks", spec := "ringMasks", unfollowed := true, recurses := true, apart := false, narrowed := true }
def RingMasksUptoSaid : Prop := ringMasksUptoRow.holds Try.pinned (OpenSpec.upto ringMasksSpec)

/-- 'steeplelaw09.WeaveNone', WHERE WHAT IT READS IS OF BULK AT MOST 1048576: true; the input reads as it did. -/
def weaveNoneUptoRow : OpenClaim := { program := "ytdpbogooceiaaaa", sum := "d292f8a651595209af6a38f76e1fce5303b78af79a1112630ec36a55514644c3", func := "steeple/steeplelaw09.WeaveNone", spec := "weaveNone", unfollowed := true, recurses := true, apart := false, narrowed := true }
def WeaveNoneUptoSaid : Prop := weaveNoneUptoRow.holds Try.pinned (OpenSpec.upto weaveNoneSpec)

end Rows
end Go.Proofs.Ytdpbogooceiaaaa
