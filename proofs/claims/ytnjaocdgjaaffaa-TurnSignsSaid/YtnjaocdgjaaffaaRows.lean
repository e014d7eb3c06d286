/-
  No cell of these rows narrows 'for every input' (looked for: loops, veiled, ifaces, maps, wideKeys, modest, calm, conditions, laid).
  DERIVED. THE GIVEN ROWS OF THIS SEAT. 10 by the template 'for every input the law returns true; each argument reads behind the call as it read before'; 0 by the template 'total and deterministic' (their statements: YtnjaocdgjaaffaaTotals.lean).
  GIVEN WITH THE SEED: the statements are not yours to turn. If you find one false, say at which input.
  Laid BY PROGRAM, IN A SANDBOX (cutbox-rows.mjs): the forced cells as the released guide's own fill.sh prints them over the translation 84c4eb93ae058a9f… (all of the seat's roots in one cut). By AI agents, Wed Nov 11 2026. No macro, syntax, notation, axiom, sorry.
-/
import Derived.Test.YtnjaocdgjaaffaaChecked
import GoSem.Claim
import GoSem.ClaimJoined
import GoSem.ClaimMapViews
import Derived.JoinedTies
import Derived.KernelRfl
namespace Go.Proofs.Ytnjaocdgjaaffaa
/- THE CELL 'sum', in the pinned program and in every row, IS THE sha256 OF THE DUMP (.gsa) THAT YtnjaocdgjaaffaaProg.lean LOADS. Nothing in Lean hashes anything: it is a label: what it is worth is what the hold of that sum in a sandbox is worth. -/
noncomputable def Try.pinned : Pinned := { name := "ytnjaocdgjaaffaa", sum := "84c4eb93ae058a9f47a6c0264248ff42664aa2e1748d3c81bbcd2c22050e70a0", checked := Try.checked }
namespace Rows
def none {H : Type} : Left H := { results := [], args := [] }

/-- 'steeplelaw18.TurnSigns': WHATEVER THE INPUT: true; the input reads as it did. -/
def turnSignsSpec : ChangeSpec := { name := "turnSigns", fn := fun _ => fun
  | [d1, d2, d3] => { results := [.lit (.bool true)], args := [d1, d2, d3] }
  | _ => none }
def turnSignsRow : OpenClaim := { program := "ytnjaocdgjaaffaa", sum := "84c4eb93ae058a9f47a6c0264248ff42664aa2e1748d3c81bbcd2c22050e70a0", func := "steeple/steeplelaw18.TurnSigns", spec := "turnSigns", unfollowed := true, recurses := true, apart := false }
def TurnSignsSaid : Prop := turnSignsRow.holds Try.pinned (OpenSpec.ofChange turnSignsSpec)

/-- ITS FALSE NEIGHBOUR: 'it returns false'. Refute it at one input. -/
def turnSignsWrong : ChangeSpec := { name := "turnSigns", fn := fun _ => fun
  | [d1, d2, d3] => { results := [.lit (.bool false)], args := [d1, d2, d3] }
  | _ => none }
def TurnSignsWrongFalsely : Prop := turnSignsRow.holds Try.pinned (OpenSpec.ofChange turnSignsWrong)

/-- 'steeplelaw22.ClaimTotals': WHATEVER THE INPUT: true; the input reads as it did. -/
def claimTotalsSpec : ChangeSpec := { name := "claimTotals", fn := fun _ => fun
  | [d1, d2] => { results := [.lit (.bool true)], args := [d1, d2] }
  | _ => none }
def claimTotalsRow : OpenClaim := { program := "ytnjaocdgjaaffaa", sum := "84c4eb93ae058a9f47a6c0264248ff42664aa2e1748d3c81bbcd2c22050e70a0", func := "steeple/steeplelaw22.ClaimTotals", spec := "claimTotals", unfollowed := true, recurses := true, apart := false }
def ClaimTotalsSaid : Prop := claimTotalsRow.holds Try.pinned (OpenSpec.ofChange claimTotalsSpec)

/-- ITS FALSE NEIGHBOUR: 'it returns false'. Refute it at one input. -/
def claimTotalsWrong : ChangeSpec := { name := "claimTotals", fn := fun _ => fun
  | [d1, d2] => { results := [.lit (.bool false)], args := [d1, d2] }
  | _ => none }
def ClaimTotalsWrongFalsely : Prop := claimTotalsRow.holds Try.pinned (OpenSpec.ofChange claimTotalsWrong)

/-- 'steeplelaw22.ClaimCounts': WHATEVER THE INPUT: true; the input reads as it did. -/
def claimCountsSpec : ChangeSpec := { name := "claimCounts", fn := fun _ => fun
  | [d1, d2, d3] => { results := [.lit (.bool true)], args := [d1, d2, d3] }
  | _ => none }
def claimCountsRow : OpenClaim := { program := "ytnjaocdgjaaffaa", sum := "84c4eb93ae058a9f47a6c0264248ff42664aa2e1748d3c81bbcd2c22050e70a0", func := "steeple/steeplelaw22.ClaimCounts", spec := "claimCounts", unfollowed := true, recurses := true, apart := false }
def ClaimCountsSaid : Prop := claimCountsRow.holds Try.pinned (OpenSpec.ofChange claimCountsSpec)

/-- ITS FALSE NEIGHBOUR: 'it returns false'. Refute it at one input. -/
def claimCountsWrong : ChangeSpec := { name := "claimCounts", fn := fun _ => fun
  | [d1, d2, d3] => { results := [.lit (.bool false)], args := [d1, d2, d3] }
  | _ => none }
def ClaimCountsWrongFalsely : Prop := claimCountsRow.holds Try.pinned (OpenSpec.ofChange claimCountsWrong)

/-- 'steeplelaw22.ClaimCorners': WHATEVER THE INPUT: true; the input reads as it did. -/
def claimCornersSpec : ChangeSpec := { name := "claimCorners", fn := fun _ => fun
  | [d1, d2, d3] => { results := [.lit (.bool true)], args := [d1, d2, d3] }
  | _ => none }
def claimCornersRow : OpenClaim := { program := "ytnjaocdgjaaffaa", sum := "84c4eb93ae058a9f47a6c0264248ff42664aa2e1748d3c81bbcd2c22050e70a0", func := "steeple/steeplelaw22.ClaimCorners", spec := "claimCorners", unfollowed := true, recurses := true, apart := false }
def ClaimCornersSaid : Prop := claimCornersRow.holds Try.pinned (OpenSpec.ofChange claimCornersSpec)

/-- ITS FALSE NEIGHBOUR: 'it returns false'. Refute it at one input. -/
def claimCornersWrong : ChangeSpec := { name := "claimCorners", fn := fun _ => fun
  | [d1, d2, d3] => { results := [.lit (.bool false)], args := [d1, d2, d3] }
  | _ => none }
def ClaimCornersWrongFalsely : Prop := claimCornersRow.holds Try.pinned (OpenSpec.ofChange claimCornersWrong)

/-- 'steeplelaw22.ClaimTrue': WHATEVER THE INPUT: true; the input reads as it did. -/
def claimTrueSpec : ChangeSpec := { name := "claimTrue", fn := fun _ => fun
  | [d1, d2, d3] => { results := [.lit (.bool true)], args := [d1, d2, d3] }
  | _ => none }
def claimTrueRow : OpenClaim := { program := "ytnjaocdgjaaffaa", sum := "84c4eb93ae058a9f47a6c0264248ff42664aa2e1748d3c81bbcd2c22050e70a0", func := "steeple/steeplelaw22.ClaimTrue", spec := "claimTrue", unfollowed := true, recurses := true, apart := false }
def ClaimTrueSaid : Prop := claimTrueRow.holds Try.pinned (OpenSpec.ofChange claimTrueSpec)

/-- ITS FALSE NEIGHBOUR: 'it returns false'. Refute it at one input. -/
def claimTrueWrong : ChangeSpec := { name := "claimTrue", fn := fun _ => fun
  | [d1, d2, d3] => { results := [.lit (.bool false)], args := [d1, d2, d3] }
  | _ => none }
def ClaimTrueWrongFalsely : Prop := claimTrueRow.holds Try.pinned (OpenSpec.ofChange claimTrueWrong)

/-- 'steeplelaw22.ClaimMasks': WHATEVER THE INPUT: true; the input reads as it did. -/
def claimMasksSpec : ChangeSpec := { name := "claimMasks", fn := fun _ => fun
  | [d1, d2, d3] => { results := [.lit (.bool true)], args := [d1, d2, d3] }
  | _ => none }
def claimMasksRow : OpenClaim := { program := "ytnjaocdgjaaffaa", sum := "84c4eb93ae058a9f47a6c0264248ff42664aa2e1748d3c81bbcd2c22050e70a0", func := "steeple/steeplelaw22.ClaimMasks", spec := "claimMasks", unfollowed := true, recurses := true, apart := false }
def ClaimMasksSaid : Prop := claimMasksRow.holds Try.pinned (OpenSpec.ofChange claimMasksSpec)

/-- ITS FALSE NEIGHBOUR: 'it returns false'. Refute it at one input. -/
def claimMasksWrong : ChangeSpec := { name := "claimMasks", fn := fun _ => fun
  | [d1, d2, d3] => { results := [.lit (.bool false)], args := [d1, d2, d3] }
  | _ => none }
def ClaimMasksWrongFalsely : Prop := claimMasksRow.holds Try.pinned (OpenSpec.ofChange claimMasksWrong)

/-- 'steeplelaw23.RingCounts': WHATEVER THE INPUT: true; the input reads as it did. -/
def ringCountsSpec : ChangeSpec := { name := "ringCounts", fn := fun _ => fun
  | [d1, d2, d3] => { results := [.lit (.bool true)], args := [d1, d2, d3] }
  | _ => none }
def ringCountsRow : OpenClaim := { program := "ytnjaocdgjaaffaa", sum := "84c4eb93ae058a9f47a6c0264248ff42664aa2e1748d3c81bbcd2c22050e70a0", func := "steeple/steeplelaw23.RingCounts", spec := "ringCounts", unfollowed := true, recurses := true, apart := false }
def RingCountsSaid : Prop := ringCountsRow.holds Try.pinned (OpenSpec.ofChange ringCountsSpec)

/-- ITS FALSE NEIGHBOUR: 'it returns false'. Refute it at one input. -/
def ringCountsWrong : ChangeSpec := { name := "ringCounts", fn := fun _ => fun
  | [d1, d2, d3] => { results := [.lit (.bool false)], args := [d1, d2, d3] }
  | _ => none }
def RingCountsWrongFalsely : Prop := ringCountsRow.holds Try.pinned (OpenSpec.ofChange ringCountsWrong)

/-- 'steeplelaw23.RingParts': WHATEVER THE INPUT: true; the input reads as it did. -/
def ringPartsSpec : ChangeSpec := { name := "ringParts", fn := fun _ => fun
  | [d1, d2] => { results := [.lit (.bool true)], args := [d1, d2] }
  | _ => none }
def ringPartsRow : OpenClaim := { program := "ytnjaocdgjaaffaa", sum := "84c4eb93ae058a9f47a6c0264248ff42664aa2e1748d3c81bbcd2c22050e70a0", func := "steeple/steeplelaw23.RingParts", spec := "ringParts", unfollowed := true, recurses := true, apart := false }
def RingPartsSaid : Prop := ringPartsRow.holds Try.pinned (OpenSpec.ofChange ringPartsSpec)

/-- ITS FALSE NEIGHBOUR: 'it returns false'. Refute it at one input. -/
def ringPartsWrong : ChangeSpec := { name := "ringParts", fn := fun _ => fun
  | [d1, d2] => { results := [.lit (.bool false)], args := [d1, d2] }
  | _ => none }
def RingPartsWrongFalsely : Prop := ringPartsRow.holds Try.pinned (OpenSpec.ofChange ringPartsWrong)

/-- 'steeplelaw23.RingSwitches': WHATEVER THE INPUT: true; the input reads as it did. -/
def ringSwitchesSpec : ChangeSpec := { name := "ringSwitches", fn := fun _ => fun
  | [d1, d2, d3] => { results := [.lit (.bool true)], args := [d1, d2, d3] }
  | _ => none }
def ringSwitchesRow : OpenClaim := { program := "ytnjaocdgjaaffaa", sum := "84c4eb93ae058a9f47a6c0264248ff42664aa2e1748d3c81bbcd2c22050e70a0", func := "steeple/steeplelaw23.RingSwitches", spec := "ringSwitches", unfollowed := true, recurses := true, apart := false }
def RingSwitchesSaid : Prop := ringSwitchesRow.holds Try.pinned (OpenSpec.ofChange ringSwitchesSpec)

/-- ITS FALSE NEIGHBOUR: 'it returns false'. Refute it at one input. -/
def ringSwitchesWrong : ChangeSpec := { name := "ringSwitches", fn := fun _ => fun
  | [d1, d2, d3] => { results := [.lit (.bool false)], args := [d1, d2, d3] }
  | _ => none }
def RingSwitchesWrongFalsely : Prop := ringSwitchesRow.holds Try.pinned (OpenSpec.ofChange ringSwitchesWrong)

/-- 'steeplelaw23.RingMasks': WHATEVER THE INPUT: true; the input reads as it did. -/
def ringMasksSpec : ChangeSpec := { name := "ringMasks", fn := fun _ => fun
  | [d1, d2, d3] => { results := [.lit (.bool true)], args := [d1, d2, d3] }
  | _ => none }
def ringMasksRow : OpenClaim := { program := "ytnjaocdgjaaffaa", sum := "84c4eb93ae058a9f47a6c0264248ff42664aa2e1748d3c81bbcd2c22050e70a0", func := "steeple/steeplelaw23.RingMasks", spec := "ringMasks", unfollowed := true, recurses := true, apart := false }
def RingMasksSaid : Prop := ringMasksRow.holds Try.pinned (OpenSpec.ofChange ringMasksSpec)

/-- ITS FALSE NEIGHBOUR: 'it returns false'. Refute it at one input. -/
def ringMasksWrong : ChangeSpec := { name := "ringMasks", fn := fun _ => fun
  | [d1, d2, d3] => { results := [.lit (.bool false)], args := [d1, d2, d3] }
  | _ => none }
def RingMasksWrongFalsely : Prop := ringMasksRow.holds Try.pinned (OpenSpec.ofChange ringMasksWrong)

/- THE SECOND FORM. 'bulk': how many values and letters a reading holds, each counted each time it is reached (what is shared counts as often as it is met; a slice's spare places count too). A statement '..UptoSaid' is the law's where the arguments, and the package variables that the reading takes, are together of bulk at most 1048576: NARROWER than '..Said'. Prove '..Said' where nothing that the law and all that it calls make is longer than what came in: it says more and counts as full. Else prove '..UptoSaid'. A law counts once. -/
mutual
def uptoBulk {H : Type} : DataW H → Nat
  | .lit (.string bytes) => bytes.length + 1
  | .lit _ => 1
  | .nil => 1
  | .ptr d => uptoBulk d + 1
  | .slice elems spare => uptoBulkAll elems + uptoBulkAll spare + 1
  | .agg parts => uptoBulkAll parts + 1
  | .iface _ d => uptoBulk d + 1
  | .map entries => uptoBulkEntries entries + 1
  | .held _ => 1
def uptoBulkAll {H : Type} : List (DataW H) → Nat
  | [] => 0
  | d :: r => uptoBulk d + uptoBulkAll r
def uptoBulkEntries {H : Type} : List (Lit × DataW H) → Nat
  | [] => 0
  | x :: r => uptoBulkEntry x + uptoBulkEntries r
def uptoBulkEntry {H : Type} : Lit × DataW H → Nat
  | (.string bytes, d) => bytes.length + uptoBulk d + 1
  | (_, d) => uptoBulk d + 1
 end
def uptoSmall : (H : Type) → List (DataW H) → Bool := fun _ ds => decide (uptoBulkAll ds ≤ 1048576)
def OpenSpec.upto (s : _root_.Go.ChangeSpec) : _root_.Go.OpenSpec := { _root_.Go.OpenSpec.ofChange s with cond := some uptoSmall }

/-- 'steeplelaw18.TurnSigns', WHERE WHAT IT READS IS OF BULK AT MOST 1048576: true; the input reads as it did. -/
def turnSignsUptoRow : OpenClaim := { program := "ytnjaocdgjaaffaa", sum := "84c4eb93ae058a9f47a6c0264248ff42664aa2e1748d3c81bbcd2c22050e70a0", func := "steeple/steeplelaw18.TurnSigns", spec := "turnSigns", unfollowed := true, recurses := true, apart := false, narrowed := true }
def TurnSignsUptoSaid : Prop := turnSignsUptoRow.holds Try.pinned (OpenSpec.upto turnSignsSpec)

/-- 'steeplelaw22.ClaimTotals', WHERE WHAT IT READS IS OF BULK AT MOST 1048576: true; the input reads as it did. -/
def claimTotalsUptoRow : OpenClaim := { program := "ytnjaocdgjaaffaa", sum := "84c4eb93ae058a9f47a6c0264248ff42664aa2e1748d3c81bbcd2c22050e70a0", func := "steeple/steeplelaw22.ClaimTotals", spec := "claimTotals", unfollowed := true, recurses := true, apart := false, narrowed := true }
def ClaimTotalsUptoSaid : Prop := claimTotalsUptoRow.holds Try.pinned (OpenSpec.upto claimTotalsSpec)

/-- 'steeplelaw22.ClaimCounts', WHERE WHAT IT READS IS OF BULK AT MOST 1048576: true; the input reads as it did. -/
def claimCountsUptoRow : OpenClaim := { program := "ytnjaocdgjaaffaa", sum := "84c4eb93ae058a9f47a6c0264248ff42664aa2e1748d3c81bbcd2c22050e70a0", func := "steeple/steeplelaw22.ClaimCounts", spec := "claimCounts", unfollowed := true, recurses := true, apart := false, narrowed := true }
def ClaimCountsUptoSaid : Prop := claimCountsUptoRow.holds Try.pinned (OpenSpec.upto claimCountsSpec)

/-- 'steeplelaw22.ClaimCorners', WHERE WHAT IT READS IS OF BULK AT MOST 1048576: true; the input reads as it did. -/
def claimCornersUptoRow : OpenClaim := { program := "ytnjaocdgjaaffaa", sum := "84c4eb93ae058a9f47a6c0264248ff42664aa2e1748d3c81bbcd2c22050e70a0", func := "steeple/steeplelaw22.ClaimCorners", spec := "claimCorners", unfollowed := true, recurses := true, apart := false, narrowed := true }
def ClaimCornersUptoSaid : Prop := claimCornersUptoRow.holds Try.pinned (OpenSpec.upto claimCornersSpec)

/-- 'steeplelaw22.ClaimTrue', WHERE WHAT IT READS IS OF BULK AT MOST 1048576: true; the input reads as it did. -/
def claimTrueUptoRow : OpenClaim := { program := "ytnjaocdgjaaffaa", sum := "84c4eb93ae058a9f47a6c0264248ff42664aa2e1748d3c81bbcd2c22050e70a0", func := "steeple/steeplelaw22.ClaimTrue", spec := "claimTrue", unfollowed := true, recurses := true, apart := false, narrowed := true }
def ClaimTrueUptoSaid : Prop := claimTrueUptoRow.holds Try.pinned (OpenSpec.upto claimTrueSpec)

/-- 'steeplelaw22.ClaimMasks', WHERE WHAT IT READS IS OF BULK AT MOST 1048576: true; the input reads as it did. -/
def claimMasksUptoRow : OpenClaim := { program := "ytnjaocdgjaaffaa", sum := "84c4eb93ae058a9f47a6c0264248ff42664aa2e1748d3c81bbcd2c22050e70a0", func := "steeple/steeplelaw22.ClaimMasks", spec := "claimMasks", unfollowed := true, recurses := true, apart := false, narrowed := true }
def ClaimMasksUptoSaid : Prop := claimMasksUptoRow.holds Try.pinned (OpenSpec.upto claimMasksSpec)

/-- 'steeplelaw23.RingCounts', WHERE WHAT IT READS IS OF BULK AT MOST 1048576: true; the input reads as it did. -/
def ringCountsUptoRow : OpenClaim := { program := "ytnjaocdgjaaffaa", sum := "84c4eb93ae058a9f47a6c0264248ff42664aa2e1748d3c81bbcd2c22050e70a0", func := "steeple/steeplelaw23.RingCounts", spec := "ringCounts", unfollowed := true, recurses := true, apart := false, narrowed := true }
def RingCountsUptoSaid : Prop := ringCountsUptoRow.holds Try.pinned (OpenSpec.upto ringCountsSpec)

/-- 'steeplelaw23.RingParts', WHERE WHAT IT READS IS OF BULK AT MOST 1048576: true; the input reads as it did. -/
def ringPartsUptoRow : OpenClaim := { program := "ytnjaocdgjaaffaa", sum := "84c4eb93ae058a9f47a6c0264248ff42664aa2e1748d3c81bbcd2c22050e70a0", func := "steeple/steeplelaw23.RingParts", spec := "ringParts", unfollowed := true, recurses := true, apart := false, narrowed := true }
def RingPartsUptoSaid : Prop := ringPartsUptoRow.holds Try.pinned (OpenSpec.upto ringPartsSpec)

/-- 'steeplelaw23.RingSwitches', WHERE WHAT IT READS IS OF BULK AT MOST 1048576: true; the input reads as it did. -/
def ringSwitchesUptoRow : OpenClaim := { program := "ytnjaocdgjaaffaa", sum := "84c4eb93ae058a9f47a6c0264248ff42664aa2e1748d3c81bbcd2c22050e70a0", func := "steeple/steeplelaw23.RingSwitches", spec := "ringSwitches", unfollowed := true, recurses := true, apart := false, narrowed := true }
def RingSwitchesUptoSaid : Prop := ringSwitchesUptoRow.holds Try.pinned (OpenSpec.upto ringSwitchesSpec)

/-- 'steeplelaw23.RingMasks', WHERE WHAT IT READS IS OF BULK AT MOST 1048576: true; the input reads as it did. -/
def ringMasksUptoRow : OpenClaim := { program := "ytnjaocdgjaaffaa", sum := "84c4eb93ae058a9f47a6c0264248ff42664aa2e1748d3c81bbcd2c22050e70a0", func := "steeple/steeplelaw23.RingMasks", spec := "ringMasks", unfollowed := true, recurses := true, apart := false, narrowed := true }
def RingMasksUptoSaid : Prop := ringMasksUptoRow.holds Try.pinned (OpenSpec.upto ringMasksSpec)

end Rows
end Go.Proofs.Ytnjaocdgjaaffaa
