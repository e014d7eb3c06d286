/-
  No cell of these rows narrows 'for every input' (looked for: loops, veiled, ifaces, maps, wideKeys, modest, calm, conditions, laid).
  DERIVED. THE GIVEN ROWS OF THIS SEAT. 10 by the template 'for every input the law returns true; each argument reads behind the call as it read before'; 0 by the template 'total and deterministic' (their statements: YtohlooljopjmjaaTotals.lean).
  GIVEN WITH THE SEED: the statements are not yours to turn. If you find one false, say at which input.
  Laid BY PROGRAM, IN A SANDBOX (cutbox-rows.mjs): the forced cells as the released guide's own fill.sh prints them over the translation 6a327fbfb739a845… (all of the seat's roots in one cut). By AI agents, Wed Nov 11 2026. No macro, syntax, notation, axiom, sorry.
-/
import Derived.Test.YtohlooljopjmjaaChecked
import GoSem.Claim
import GoSem.ClaimJoined
import GoSem.ClaimMapViews
import Derived.JoinedTies
import Derived.KernelRfl
namespace Go.Proofs.Ytohlooljopjmjaa
/- THE CELL 'sum', in the pinned program and in every row, IS THE sha256 OF THE DUMP (.gsa) THAT YtohlooljopjmjaaProg.lean LOADS. Nothing in Lean hashes anything: it is a label: what it is worth is what the hold of that sum in a sandbox is worth. -/
noncomputable def Try.pinned : Pinned := { name := "ytohlooljopjmjaa", sum := "6a327fbfb739a845415f6d7ed7ebb72c26f33b123c5d568e618a9e1043aaaeab", checked := Try.checked }
namespace Rows
def none {H : Type} : Left H := { results := [], args := [] }

/-- 'steeplelaw04.SpanBases': WHATEVER THE INPUT: true; the input reads as it did. -/
def spanBasesSpec : ChangeSpec := { name := "spanBases", fn := fun _ => fun
  | [d1, d2, d3] => { results := [.lit (.bool true)], args := [d1, d2, d3] }
  | _ => none }
def spanBasesRow : OpenClaim := { program := "ytohlooljopjmjaa", sum := "6a327fbfb739a845415f6d7ed7ebb72c26f33b123c5d568e618a9e1043aaaeab", func := "steeple/steeplelaw04.SpanBases", spec := "spanBases", unfollowed := true, recurses := true, apart := false }
def SpanBasesSaid : Prop := spanBasesRow.holds Try.pinned (OpenSpec.ofChange spanBasesSpec)

/-- ITS FALSE NEIGHBOUR: 'it returns false'. Refute it at one input. -/
def spanBasesWrong : ChangeSpec := { name := "spanBases", fn := fun _ => fun
  | [d1, d2, d3] => { results := [.lit (.bool false)], args := [d1, d2, d3] }
  | _ => none }
def SpanBasesWrongFalsely : Prop := spanBasesRow.holds Try.pinned (OpenSpec.ofChange spanBasesWrong)

/-- 'steeplelaw04.SpanKeeps': WHATEVER THE INPUT: true; the input reads as it did. -/
def spanKeepsSpec : ChangeSpec := { name := "spanKeeps", fn := fun _ => fun
  | [d1, d2] => { results := [.lit (.bool true)], args := [d1, d2] }
  | _ => none }
def spanKeepsRow : OpenClaim := { program := "ytohlooljopjmjaa", sum := "6a327fbfb739a845415f6d7ed7ebb72c26f33b123c5d568e618a9e1043aaaeab", func := "steeple/steeplelaw04.SpanKeeps", spec := "spanKeeps", unfollowed := true, recurses := true, apart := false }
def SpanKeepsSaid : Prop := spanKeepsRow.holds Try.pinned (OpenSpec.ofChange spanKeepsSpec)

/-- ITS FALSE NEIGHBOUR: 'it returns false'. Refute it at one input. -/
def spanKeepsWrong : ChangeSpec := { name := "spanKeeps", fn := fun _ => fun
  | [d1, d2] => { results := [.lit (.bool false)], args := [d1, d2] }
  | _ => none }
def SpanKeepsWrongFalsely : Prop := spanKeepsRow.holds Try.pinned (OpenSpec.ofChange spanKeepsWrong)

/-- 'steeplelaw04.SpanSolves': WHATEVER THE INPUT: true; the input reads as it did. -/
def spanSolvesSpec : ChangeSpec := { name := "spanSolves", fn := fun _ => fun
  | [d1, d2, d3] => { results := [.lit (.bool true)], args := [d1, d2, d3] }
  | _ => none }
def spanSolvesRow : OpenClaim := { program := "ytohlooljopjmjaa", sum := "6a327fbfb739a845415f6d7ed7ebb72c26f33b123c5d568e618a9e1043aaaeab", func := "steeple/steeplelaw04.SpanSolves", spec := "spanSolves", unfollowed := true, recurses := true, apart := false }
def SpanSolvesSaid : Prop := spanSolvesRow.holds Try.pinned (OpenSpec.ofChange spanSolvesSpec)

/-- ITS FALSE NEIGHBOUR: 'it returns false'. Refute it at one input. -/
def spanSolvesWrong : ChangeSpec := { name := "spanSolves", fn := fun _ => fun
  | [d1, d2, d3] => { results := [.lit (.bool false)], args := [d1, d2, d3] }
  | _ => none }
def SpanSolvesWrongFalsely : Prop := spanSolvesRow.holds Try.pinned (OpenSpec.ofChange spanSolvesWrong)

/-- 'steeplelaw04.SpanBacks': WHATEVER THE INPUT: true; the input reads as it did. -/
def spanBacksSpec : ChangeSpec := { name := "spanBacks", fn := fun _ => fun
  | [d] => { results := [.lit (.bool true)], args := [d] }
  | _ => none }
def spanBacksRow : OpenClaim := { program := "ytohlooljopjmjaa", sum := "6a327fbfb739a845415f6d7ed7ebb72c26f33b123c5d568e618a9e1043aaaeab", func := "steeple/steeplelaw04.SpanBacks", spec := "spanBacks", unfollowed := true, recurses := true, apart := false }
def SpanBacksSaid : Prop := spanBacksRow.holds Try.pinned (OpenSpec.ofChange spanBacksSpec)

/-- ITS FALSE NEIGHBOUR: 'it returns false'. Refute it at one input. -/
def spanBacksWrong : ChangeSpec := { name := "spanBacks", fn := fun _ => fun
  | [d] => { results := [.lit (.bool false)], args := [d] }
  | _ => none }
def SpanBacksWrongFalsely : Prop := spanBacksRow.holds Try.pinned (OpenSpec.ofChange spanBacksWrong)

/-- 'steeplelaw05.LinpolyValues': WHATEVER THE INPUT: true; the input reads as it did. -/
def linpolyValuesSpec : ChangeSpec := { name := "linpolyValues", fn := fun _ => fun
  | [d1, d2, d3] => { results := [.lit (.bool true)], args := [d1, d2, d3] }
  | _ => none }
def linpolyValuesRow : OpenClaim := { program := "ytohlooljopjmjaa", sum := "6a327fbfb739a845415f6d7ed7ebb72c26f33b123c5d568e618a9e1043aaaeab", func := "steeple/steeplelaw05.LinpolyValues", spec := "linpolyValues", unfollowed := true, recurses := true, apart := false }
def LinpolyValuesSaid : Prop := linpolyValuesRow.holds Try.pinned (OpenSpec.ofChange linpolyValuesSpec)

/-- ITS FALSE NEIGHBOUR: 'it returns false'. Refute it at one input. -/
def linpolyValuesWrong : ChangeSpec := { name := "linpolyValues", fn := fun _ => fun
  | [d1, d2, d3] => { results := [.lit (.bool false)], args := [d1, d2, d3] }
  | _ => none }
def LinpolyValuesWrongFalsely : Prop := linpolyValuesRow.holds Try.pinned (OpenSpec.ofChange linpolyValuesWrong)

/-- 'steeplelaw05.LinpolyZeros': WHATEVER THE INPUT: true; the input reads as it did. -/
def linpolyZerosSpec : ChangeSpec := { name := "linpolyZeros", fn := fun _ => fun
  | [d1, d2, d3] => { results := [.lit (.bool true)], args := [d1, d2, d3] }
  | _ => none }
def linpolyZerosRow : OpenClaim := { program := "ytohlooljopjmjaa", sum := "6a327fbfb739a845415f6d7ed7ebb72c26f33b123c5d568e618a9e1043aaaeab", func := "steeple/steeplelaw05.LinpolyZeros", spec := "linpolyZeros", unfollowed := true, recurses := true, apart := false }
def LinpolyZerosSaid : Prop := linpolyZerosRow.holds Try.pinned (OpenSpec.ofChange linpolyZerosSpec)

/-- ITS FALSE NEIGHBOUR: 'it returns false'. Refute it at one input. -/
def linpolyZerosWrong : ChangeSpec := { name := "linpolyZeros", fn := fun _ => fun
  | [d1, d2, d3] => { results := [.lit (.bool false)], args := [d1, d2, d3] }
  | _ => none }
def LinpolyZerosWrongFalsely : Prop := linpolyZerosRow.holds Try.pinned (OpenSpec.ofChange linpolyZerosWrong)

/-- 'steeplelaw05.LinpolyMakes': WHATEVER THE INPUT: true; the input reads as it did. -/
def linpolyMakesSpec : ChangeSpec := { name := "linpolyMakes", fn := fun _ => fun
  | [d1, d2, d3] => { results := [.lit (.bool true)], args := [d1, d2, d3] }
  | _ => none }
def linpolyMakesRow : OpenClaim := { program := "ytohlooljopjmjaa", sum := "6a327fbfb739a845415f6d7ed7ebb72c26f33b123c5d568e618a9e1043aaaeab", func := "steeple/steeplelaw05.LinpolyMakes", spec := "linpolyMakes", unfollowed := true, recurses := true, apart := false }
def LinpolyMakesSaid : Prop := linpolyMakesRow.holds Try.pinned (OpenSpec.ofChange linpolyMakesSpec)

/-- ITS FALSE NEIGHBOUR: 'it returns false'. Refute it at one input. -/
def linpolyMakesWrong : ChangeSpec := { name := "linpolyMakes", fn := fun _ => fun
  | [d1, d2, d3] => { results := [.lit (.bool false)], args := [d1, d2, d3] }
  | _ => none }
def LinpolyMakesWrongFalsely : Prop := linpolyMakesRow.holds Try.pinned (OpenSpec.ofChange linpolyMakesWrong)

/-- 'steeplelaw05.LinpolyPlain': WHATEVER THE INPUT: true; the input reads as it did. -/
def linpolyPlainSpec : ChangeSpec := { name := "linpolyPlain", fn := fun _ => fun
  | [d1, d2] => { results := [.lit (.bool true)], args := [d1, d2] }
  | _ => none }
def linpolyPlainRow : OpenClaim := { program := "ytohlooljopjmjaa", sum := "6a327fbfb739a845415f6d7ed7ebb72c26f33b123c5d568e618a9e1043aaaeab", func := "steeple/steeplelaw05.LinpolyPlain", spec := "linpolyPlain", unfollowed := true, recurses := true, apart := false }
def LinpolyPlainSaid : Prop := linpolyPlainRow.holds Try.pinned (OpenSpec.ofChange linpolyPlainSpec)

/-- ITS FALSE NEIGHBOUR: 'it returns false'. Refute it at one input. -/
def linpolyPlainWrong : ChangeSpec := { name := "linpolyPlain", fn := fun _ => fun
  | [d1, d2] => { results := [.lit (.bool false)], args := [d1, d2] }
  | _ => none }
def LinpolyPlainWrongFalsely : Prop := linpolyPlainRow.holds Try.pinned (OpenSpec.ofChange linpolyPlainWrong)

/-- 'steeplelaw05.LinpolyCoeffs': WHATEVER THE INPUT: true; the input reads as it did. -/
def linpolyCoeffsSpec : ChangeSpec := { name := "linpolyCoeffs", fn := fun _ => fun
  | [d1, d2, d3] => { results := [.lit (.bool true)], args := [d1, d2, d3] }
  | _ => none }
def linpolyCoeffsRow : OpenClaim := { program := "ytohlooljopjmjaa", sum := "6a327fbfb739a845415f6d7ed7ebb72c26f33b123c5d568e618a9e1043aaaeab", func := "steeple/steeplelaw05.LinpolyCoeffs", spec := "linpolyCoeffs", unfollowed := true, recurses := true, apart := false }
def LinpolyCoeffsSaid : Prop := linpolyCoeffsRow.holds Try.pinned (OpenSpec.ofChange linpolyCoeffsSpec)

/-- ITS FALSE NEIGHBOUR: 'it returns false'. Refute it at one input. -/
def linpolyCoeffsWrong : ChangeSpec := { name := "linpolyCoeffs", fn := fun _ => fun
  | [d1, d2, d3] => { results := [.lit (.bool false)], args := [d1, d2, d3] }
  | _ => none }
def LinpolyCoeffsWrongFalsely : Prop := linpolyCoeffsRow.holds Try.pinned (OpenSpec.ofChange linpolyCoeffsWrong)

/-- 'steeplelaw05.LinpolyNil': WHATEVER THE INPUT: true; the input reads as it did. -/
def linpolyNilSpec : ChangeSpec := { name := "linpolyNil", fn := fun _ => fun
  | [d1, d2] => { results := [.lit (.bool true)], args := [d1, d2] }
  | _ => none }
def linpolyNilRow : OpenClaim := { program := "ytohlooljopjmjaa", sum := "6a327fbfb739a845415f6d7ed7ebb72c26f33b123c5d568e618a9e1043aaaeab", func := "steeple/steeplelaw05.LinpolyNil", spec := "linpolyNil", unfollowed := true, recurses := true, apart := false }
def LinpolyNilSaid : Prop := linpolyNilRow.holds Try.pinned (OpenSpec.ofChange linpolyNilSpec)

/-- ITS FALSE NEIGHBOUR: 'it returns false'. Refute it at one input. -/
def linpolyNilWrong : ChangeSpec := { name := "linpolyNil", fn := fun _ => fun
  | [d1, d2] => { results := [.lit (.bool false)], args := [d1, d2] }
  | _ => none }
def LinpolyNilWrongFalsely : Prop := linpolyNilRow.holds Try.pinned (OpenSpec.ofChange linpolyNilWrong)

/- THE SECOND FORM. 'bulk': how many values and letters a reading holds, each counted each time it is reached (what is shared counts as often as it is met; a slice's spare places count too). A statement '..UptoSaid' is the law's where the arguments, and the package variables that the reading takes, are together of bulk at most 1048576: NARROWER than '..Said'. Prove '..Said' where nothing that the law and all that it calls make is longer than what came in: it says more and counts as full. Else prove '..UptoSaid'. A law counts once. -/
mutual
def uptoBulk {H : Type} : DataW H → Nat
  | .lit (.string bytes) => bytes.length + 1
  | .lit _ => 1
  | .nil => 1
  | .ptr d => uptoBulk d + 1
  | .slice elems spare => uptoBulkAll elems + uptoBulkAll spare + 1
  | .agg parts => uptoBulkAll parts + 1
  | .iface _ d => uptoBulk d + 1
  | .map entries => uptoBulkEntries entries + 1
  | .held _ => 1
def uptoBulkAll {H : Type} : List (DataW H) → Nat
  | [] => 0
  | d :: r => uptoBulk d + uptoBulkAll r
def uptoBulkEntries {H : Type} : List (Lit × DataW H) → Nat
  | [] => 0
  | x :: r => uptoBulkEntry x + uptoBulkEntries r
def uptoBulkEntry {H : Type} : Lit × DataW H → Nat
  | (.string bytes, d) => bytes.length + uptoBulk d + 1
  | (_, d) => uptoBulk d + 1
 end
def uptoSmall : (H : Type) → List (DataW H) → Bool := fun _ ds => decide (uptoBulkAll ds ≤ 1048576)
def OpenSpec.upto (s : _root_.Go.ChangeSpec) : _root_.Go.OpenSpec := { _root_.Go.OpenSpec.ofChange s with cond := some uptoSmall }

/-- 'steeplelaw04.SpanBases', WHERE WHAT IT READS IS OF BULK AT MOST 1048576: true; the input reads as it did. -/
def spanBasesUptoRow : OpenClaim := { program := "ytohlooljopjmjaa", sum := "6a327fbfb739a845415f6d7ed7ebb72c26f33b123c5d568e618a9e1043aaaeab", func := "steeple/steeplelaw04.SpanBases", spec := "spanBases", unfollowed := true, recurses := true, apart := false, narrowed := true }
def SpanBasesUptoSaid : Prop := spanBasesUptoRow.holds Try.pinned (OpenSpec.upto spanBasesSpec)

/-- 'steeplelaw04.SpanKeeps', WHERE WHAT IT READS IS OF BULK AT MOST 1048576: true; the input reads as it did. -/
def spanKeepsUptoRow : OpenClaim := { program := "ytohlooljopjmjaa", sum := "6a327fbfb739a845415f6d7ed7ebb72c26f33b123c5d568e618a9e1043aaaeab", func := "steeple/steeplelaw04.SpanKeeps", spec := "spanKeeps", unfollowed := true, recurses := true, apart := false, narrowed := true }
def SpanKeepsUptoSaid : Prop := spanKeepsUptoRow.holds Try.pinned (OpenSpec.upto spanKeepsSpec)

/-- 'steeplelaw04.SpanSolves', WHERE WHAT IT READS IS OF BULK AT MOST 1048576: true; the input reads as it did. -/
def spanSolvesUptoRow : OpenClaim := { program := "ytohlooljopjmjaa", sum := "6a327fbfb739a845415f6d7ed7ebb72c26f33b123c5d568e618a9e1043aaaeab", func := "steeple/steeplelaw04.SpanSolves", spec := "spanSolves", unfollowed := true, recurses := true, apart := false, narrowed := true }
def SpanSolvesUptoSaid : Prop := spanSolvesUptoRow.holds Try.pinned (OpenSpec.upto spanSolvesSpec)

/-- 'steeplelaw04.SpanBacks', WHERE WHAT IT READS IS OF BULK AT MOST 1048576: true; the input reads as it did. -/
def spanBacksUptoRow : OpenClaim := { program := "ytohlooljopjmjaa", sum := "6a327fbfb739a845415f6d7ed7ebb72c26f33b123c5d568e618a9e1043aaaeab", func := "steeple/steeplelaw04.SpanBacks", spec := "spanBacks", unfollowed := true, recurses := true, apart := false, narrowed := true }
def SpanBacksUptoSaid : Prop := spanBacksUptoRow.holds Try.pinned (OpenSpec.upto spanBacksSpec)

/-- 'steeplelaw05.LinpolyValues', WHERE WHAT IT READS IS OF BULK AT MOST 1048576: true; the input reads as it did. -/
def linpolyValuesUptoRow : OpenClaim := { program := "ytohlooljopjmjaa", sum := "6a327fbfb739a845415f6d7ed7ebb72c26f33b123c5d568e618a9e1043aaaeab", func := "steeple/steeplelaw05.LinpolyValues", spec := "linpolyValues", unfollowed := true, recurses := true, apart := false, narrowed := true }
def LinpolyValuesUptoSaid : Prop := linpolyValuesUptoRow.holds Try.pinned (OpenSpec.upto linpolyValuesSpec)

/-- 'steeplelaw05.LinpolyZeros', WHERE WHAT IT READS IS OF BULK AT MOST 1048576: true; the input reads as it did. -/
def linpolyZerosUptoRow : OpenClaim := { program := "ytohlooljopjmjaa", sum := "6a327fbfb739a845415f6d7ed7ebb72c26f33b123c5d568e618a9e1043aaaeab", func := "steeple/steeplelaw05.LinpolyZeros", spec := "linpolyZeros", unfollowed := true, recurses := true, apart := false, narrowed := true }
def LinpolyZerosUptoSaid : Prop := linpolyZerosUptoRow.holds Try.pinned (OpenSpec.upto linpolyZerosSpec)

/-- 'steeplelaw05.LinpolyMakes', WHERE WHAT IT READS IS OF BULK AT MOST 1048576: true; the input reads as it did. -/
def linpolyMakesUptoRow : OpenClaim := { program := "ytohlooljopjmjaa", sum := "6a327fbfb739a845415f6d7ed7ebb72c26f33b123c5d568e618a9e1043aaaeab", func := "steeple/steeplelaw05.LinpolyMakes", spec := "linpolyMakes", unfollowed := true, recurses := true, apart := false, narrowed := true }
def LinpolyMakesUptoSaid : Prop := linpolyMakesUptoRow.holds Try.pinned (OpenSpec.upto linpolyMakesSpec)

/-- 'steeplelaw05.LinpolyPlain', WHERE WHAT IT READS IS OF BULK AT MOST 1048576: true; the input reads as it did. -/
def linpolyPlainUptoRow : OpenClaim := { program := "ytohlooljopjmjaa", sum := "6a327fbfb739a845415f6d7ed7ebb72c26f33b123c5d568e618a9e1043aaaeab", func := "steeple/steeplelaw05.LinpolyPlain", spec := "linpolyPlain", unfollowed := true, recurses := true, apart := false, narrowed := true }
def LinpolyPlainUptoSaid : Prop := linpolyPlainUptoRow.holds Try.pinned (OpenSpec.upto linpolyPlainSpec)

/-- 'steeplelaw05.LinpolyCoeffs', WHERE WHAT IT READS IS OF BULK AT MOST 1048576: true; the input reads as it did. -/
def linpolyCoeffsUptoRow : OpenClaim := { program := "ytohlooljopjmjaa", sum := "6a327fbfb739a845415f6d7ed7ebb72c26f33b123c5d568e618a9e1043aaaeab", func := "steeple/steeplelaw05.LinpolyCoeffs", spec := "linpolyCoeffs", unfollowed := true, recurses := true, apart := false, narrowed := true }
def LinpolyCoeffsUptoSaid : Prop := linpolyCoeffsUptoRow.holds Try.pinned (OpenSpec.upto linpolyCoeffsSpec)

/-- 'steeplelaw05.LinpolyNil', WHERE WHAT IT READS IS OF BULK AT MOST 1048576: true; the input reads as it did. -/
def linpolyNilUptoRow : OpenClaim := { program := "ytohlooljopjmjaa", sum := "6a327fbfb739a845415f6d7ed7ebb72c26f33b123c5d568e618a9e1043aaaeab", func := "steeple/steeplelaw05.LinpolyNil", spec := "linpolyNil", unfollowed := true, recurses := true, apart := false, narrowed := true }
def LinpolyNilUptoSaid : Prop := linpolyNilUptoRow.holds Try.pinned (OpenSpec.upto linpolyNilSpec)

end Rows
end Go.Proofs.Ytohlooljopjmjaa
