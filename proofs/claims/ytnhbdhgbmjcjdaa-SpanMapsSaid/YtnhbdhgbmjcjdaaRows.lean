/-
  No cell of these rows narrows 'for every input' (looked for: loops, veiled, ifaces, maps, wideKeys, modest, calm, conditions, laid).
  DERIVED. THE GIVEN ROWS OF THIS SEAT. 7 by the template 'for every input the law returns true; each argument reads behind the call as it read before'; 0 by the template 'total and deterministic' (their statements: YtnhbdhgbmjcjdaaTotals.lean).
  GIVEN WITH THE SEED: the statements are not yours to turn. If you find one false, say at which input.
  Laid BY PROGRAM, IN A SANDBOX (cutbox-rows.mjs): the forced cells as the released guide's own fill.sh prints them over the translation 321bc6fb068f616f… (all of the seat's roots in one cut). By AI agents, Wed Nov 11 2026. No macro, syntax, notation, axiom, sorry.
-/
import Derived.Test.YtnhbdhgbmjcjdaaChecked
import GoSem.Claim
import GoSem.ClaimJoined
import GoSem.ClaimMapViews
import Derived.JoinedTies
import Derived.KernelRfl
namespace Go.Proofs.Ytnhbdhgbmjcjdaa
/- THE CELL 'sum', in the pinned program and in every row, IS THE sha256 OF THE DUMP (.gsa) THAT YtnhbdhgbmjcjdaaProg.lean LOADS. Nothing in Lean hashes anything: it is a label: what it is worth is what the hold of that sum in a sandbox is worth. -/
noncomputable def Try.pinned : Pinned := { name := "ytnhbdhgbmjcjdaa", sum := "321bc6fb068f616fdcf2d3cf8e6beba0be765c3e999f3afca02eee2649ae938e", checked := Try.checked }
namespace Rows
def none {H : Type} : Left H := { results := [], args := [] }

/-- 'steeplelaw04.SpanTurns': WHATEVER THE INPUT: true; the input reads as it did. -/
def spanTurnsSpec : ChangeSpec := { name := "spanTurns", fn := fun _ => fun
  | [d1, d2] => { results := [.lit (.bool true)], args := [d1, d2] }
  | _ => none }
def spanTurnsRow : OpenClaim := { program := "ytnhbdhgbmjcjdaa", sum := "321bc6fb068f616fdcf2d3cf8e6beba0be765c3e999f3afca02eee2649ae938e", func := "steeple/steeplelaw04.SpanTurns", spec := "spanTurns", unfollowed := true, recurses := true, apart := false }
def SpanTurnsSaid : Prop := spanTurnsRow.holds Try.pinned (OpenSpec.ofChange spanTurnsSpec)

/-- ITS FALSE NEIGHBOUR: 'it returns false'. Refute it at one input. -/
def spanTurnsWrong : ChangeSpec := { name := "spanTurns", fn := fun _ => fun
  | [d1, d2] => { results := [.lit (.bool false)], args := [d1, d2] }
  | _ => none }
def SpanTurnsWrongFalsely : Prop := spanTurnsRow.holds Try.pinned (OpenSpec.ofChange spanTurnsWrong)

/-- 'steeplelaw04.SpanMaps': WHATEVER THE INPUT: true; the input reads as it did. -/
def spanMapsSpec : ChangeSpec := { name := "spanMaps", fn := fun _ => fun
  | [d1, d2, d3] => { results := [.lit (.bool true)], args := [d1, d2, d3] }
  | _ => none }
def spanMapsRow : OpenClaim := { program := "ytnhbdhgbmjcjdaa", sum := "321bc6fb068f616fdcf2d3cf8e6beba0be765c3e999f3afca02eee2649ae938e", func := "steeple/steeplelaw04.SpanMaps", spec := "spanMaps", unfollowed := true, recurses := true, apart := false }
def SpanMapsSaid : Prop := spanMapsRow.holds Try.pinned (OpenSpec.ofChange spanMapsSpec)

/-- ITS FALSE NEIGHBOUR: 'it returns false'. Refute it at one input. -/
def spanMapsWrong : ChangeSpec := { name := "spanMaps", fn := fun _ => fun
  | [d1, d2, d3] => { results := [.lit (.bool false)], args := [d1, d2, d3] }
  | _ => none }
def SpanMapsWrongFalsely : Prop := spanMapsRow.holds Try.pinned (OpenSpec.ofChange spanMapsWrong)

/-- 'steeplelaw04.SpanSolves': WHATEVER THE INPUT: true; the input reads as it did. -/
def spanSolvesSpec : ChangeSpec := { name := "spanSolves", fn := fun _ => fun
  | [d1, d2, d3] => { results := [.lit (.bool true)], args := [d1, d2, d3] }
  | _ => none }
def spanSolvesRow : OpenClaim := { program := "ytnhbdhgbmjcjdaa", sum := "321bc6fb068f616fdcf2d3cf8e6beba0be765c3e999f3afca02eee2649ae938e", func := "steeple/steeplelaw04.SpanSolves", spec := "spanSolves", unfollowed := true, recurses := true, apart := false }
def SpanSolvesSaid : Prop := spanSolvesRow.holds Try.pinned (OpenSpec.ofChange spanSolvesSpec)

/-- ITS FALSE NEIGHBOUR: 'it returns false'. Refute it at one input. -/
def spanSolvesWrong : ChangeSpec := { name := "spanSolves", fn := fun _ => fun
  | [d1, d2, d3] => { results := [.lit (.bool false)], args := [d1, d2, d3] }
  | _ => none }
def SpanSolvesWrongFalsely : Prop := spanSolvesRow.holds Try.pinned (OpenSpec.ofChange spanSolvesWrong)

/-- 'steeplelaw04.SpanBacks': WHATEVER THE INPUT: true; the input reads as it did. -/
def spanBacksSpec : ChangeSpec := { name := "spanBacks", fn := fun _ => fun
  | [d] => { results := [.lit (.bool true)], args := [d] }
  | _ => none }
def spanBacksRow : OpenClaim := { program := "ytnhbdhgbmjcjdaa", sum := "321bc6fb068f616fdcf2d3cf8e6beba0be765c3e999f3afca02eee2649ae938e", func := "steeple/steeplelaw04.SpanBacks", spec := "spanBacks", unfollowed := true, recurses := true, apart := false }
def SpanBacksSaid : Prop := spanBacksRow.holds Try.pinned (OpenSpec.ofChange spanBacksSpec)

/-- ITS FALSE NEIGHBOUR: 'it returns false'. Refute it at one input. -/
def spanBacksWrong : ChangeSpec := { name := "spanBacks", fn := fun _ => fun
  | [d] => { results := [.lit (.bool false)], args := [d] }
  | _ => none }
def SpanBacksWrongFalsely : Prop := spanBacksRow.holds Try.pinned (OpenSpec.ofChange spanBacksWrong)

/-- 'steeplelaw05.LinpolyNil': WHATEVER THE INPUT: true; the input reads as it did. -/
def linpolyNilSpec : ChangeSpec := { name := "linpolyNil", fn := fun _ => fun
  | [d1, d2] => { results := [.lit (.bool true)], args := [d1, d2] }
  | _ => none }
def linpolyNilRow : OpenClaim := { program := "ytnhbdhgbmjcjdaa", sum := "321bc6fb068f616fdcf2d3cf8e6beba0be765c3e999f3afca02eee2649ae938e", func := "steeple/steeplelaw05.LinpolyNil", spec := "linpolyNil", unfollowed := true, recurses := true, apart := false }
def LinpolyNilSaid : Prop := linpolyNilRow.holds Try.pinned (OpenSpec.ofChange linpolyNilSpec)

/-- ITS FALSE NEIGHBOUR: 'it returns false'. Refute it at one input. -/
def linpolyNilWrong : ChangeSpec := { name := "linpolyNil", fn := fun _ => fun
  | [d1, d2] => { results := [.lit (.bool false)], args := [d1, d2] }
  | _ => none }
def LinpolyNilWrongFalsely : Prop := linpolyNilRow.holds Try.pinned (OpenSpec.ofChange linpolyNilWrong)

/-- 'steeplelaw05.LinpolyPlain': WHATEVER THE INPUT: true; the input reads as it did. -/
def linpolyPlainSpec : ChangeSpec := { name := "linpolyPlain", fn := fun _ => fun
  | [d1, d2] => { results := [.lit (.bool true)], args := [d1, d2] }
  | _ => none }
def linpolyPlainRow : OpenClaim := { program := "ytnhbdhgbmjcjdaa", sum := "321bc6fb068f616fdcf2d3cf8e6beba0be765c3e999f3afca02eee2649ae938e", func := "steeple/steeplelaw05.LinpolyPlain", spec := "linpolyPlain", unfollowed := true, recurses := true, apart := false }
def LinpolyPlainSaid : Prop := linpolyPlainRow.holds Try.pinned (OpenSpec.ofChange linpolyPlainSpec)

/-- ITS FALSE NEIGHBOUR: 'it returns false'. Refute it at one input. -/
def linpolyPlainWrong : ChangeSpec := { name := "linpolyPlain", fn := fun _ => fun
  | [d1, d2] => { results := [.lit (.bool false)], args := [d1, d2] }
  | _ => none }
def LinpolyPlainWrongFalsely : Prop := linpolyPlainRow.holds Try.pinned (OpenSpec.ofChange linpolyPlainWrong)

/-- 'steeplelaw05.LinpolyValues': WHATEVER THE INPUT: true; the input reads as it did. -/
def linpolyValuesSpec : ChangeSpec := { name := "linpolyValues", fn := fun _ => fun
  | [d1, d2, d3] => { results := [.lit (.bool true)], args := [d1, d2, d3] }
  | _ => none }
def linpolyValuesRow : OpenClaim := { program := "ytnhbdhgbmjcjdaa", sum := "321bc6fb068f616fdcf2d3cf8e6beba0be765c3e999f3afca02eee2649ae938e", func := "steeple/steeplelaw05.LinpolyValues", spec := "linpolyValues", unfollowed := true, recurses := true, apart := false }
def LinpolyValuesSaid : Prop := linpolyValuesRow.holds Try.pinned (OpenSpec.ofChange linpolyValuesSpec)

/-- ITS FALSE NEIGHBOUR: 'it returns false'. Refute it at one input. -/
def linpolyValuesWrong : ChangeSpec := { name := "linpolyValues", fn := fun _ => fun
  | [d1, d2, d3] => { results := [.lit (.bool false)], args := [d1, d2, d3] }
  | _ => none }
def LinpolyValuesWrongFalsely : Prop := linpolyValuesRow.holds Try.pinned (OpenSpec.ofChange linpolyValuesWrong)

/- THE SECOND FORM. 'bulk': how many values and letters a reading holds, each counted each time it is reached (what is shared counts as often as it is met; a slice's spare places count too). A statement '..UptoSaid' is the law's where the arguments, and the package variables that the reading takes, are together of bulk at most 1048576: NARROWER than '..Said'. Prove '..Said' where nothing that the law and all that it calls make is longer than what came in: it says more and counts as full. Else prove '..UptoSaid'. A law counts once. -/
mutual
def uptoBulk {H : Type} : DataW H → Nat
  | .lit (.string bytes) => bytes.length + 1
  | .lit _ => 1
  | .nil => 1
  | .ptr d => uptoBulk d + 1
  | .slice elems spare => uptoBulkAll elems + uptoBulkAll spare + 1
  | .agg parts => uptoBulkAll parts + 1
  | .iface _ d => uptoBulk d + 1
  | .map entries => uptoBulkEntries entries + 1
  | .held _ => 1
def uptoBulkAll {H : Type} : List (DataW H) → Nat
  | [] => 0
  | d :: r => uptoBulk d + uptoBulkAll r
def uptoBulkEntries {H : Type} : List (Lit × DataW H) → Nat
  | [] => 0
  | x :: r => uptoBulkEntry x + uptoBulkEntries r
def uptoBulkEntry {H : Type} : Lit × DataW H → Nat
  | (.string bytes, d) => bytes.length + uptoBulk d + 1
  | (_, d) => uptoBulk d + 1
 end
def uptoSmall : (H : Type) → List (DataW H) → Bool := fun _ ds => decide (uptoBulkAll ds ≤ 1048576)
def OpenSpec.upto (s : _root_.Go.ChangeSpec) : _root_.Go.OpenSpec := { _root_.Go.OpenSpec.ofChange s with cond := some uptoSmall }

/-- 'steeplelaw04.SpanTurns', WHERE WHAT IT READS IS OF BULK AT MOST 1048576: true; the input reads as it did. -/
def spanTurnsUptoRow : OpenClaim := { program := "ytnhbdhgbmjcjdaa", sum := "321bc6fb068f616fdcf2d3cf8e6beba0be765c3e999f3afca02eee2649ae938e", func := "steeple/steeplelaw04.SpanTurns", spec := "spanTurns", unfollowed := true, recurses := true, apart := false, narrowed := true }
def SpanTurnsUptoSaid : Prop := spanTurnsUptoRow.holds Try.pinned (OpenSpec.upto spanTurnsSpec)

/-- 'steeplelaw04.SpanMaps', WHERE WHAT IT READS IS OF BULK AT MOST 1048576: true; the input reads as it did. -/
def spanMapsUptoRow : OpenClaim := { program := "ytnhbdhgbmjcjdaa", sum := "321bc6fb068f616fdcf2d3cf8e6beba0be765c3e999f3afca02eee2649ae938e", func := "steeple/steeplelaw04.SpanMaps", spec := "spanMaps", unfollowed := true, recurses := true, apart := false, narrowed := true }
def SpanMapsUptoSaid : Prop := spanMapsUptoRow.holds Try.pinned (OpenSpec.upto spanMapsSpec)

/-- 'steeplelaw04.SpanSolves', WHERE WHAT IT READS IS OF BULK AT MOST 1048576: true; the input reads as it did. -/
def spanSolvesUptoRow : OpenClaim := { program := "ytnhbdhgbmjcjdaa", sum := "321bc6fb068f616fdcf2d3cf8e6beba0be765c3e999f3afca02eee2649ae938e", func := "steeple/steeplelaw04.SpanSolves", spec := "spanSolves", unfollowed := true, recurses := true, apart := false, narrowed := true }
def SpanSolvesUptoSaid : Prop := spanSolvesUptoRow.holds Try.pinned (OpenSpec.upto spanSolvesSpec)

/-- 'steeplelaw04.SpanBacks', WHERE WHAT IT READS IS OF BULK AT MOST 1048576: true; the input reads as it did. -/
def spanBacksUptoRow : OpenClaim := { program := "ytnhbdhgbmjcjdaa", sum := "321bc6fb068f616fdcf2d3cf8e6beba0be765c3e999f3afca02eee2649ae938e", func := "steeple/steeplelaw04.SpanBacks", spec := "spanBacks", unfollowed := true, recurses := true, apart := false, narrowed := true }
def SpanBacksUptoSaid : Prop := spanBacksUptoRow.holds Try.pinned (OpenSpec.upto spanBacksSpec)

/-- 'steeplelaw05.LinpolyNil', WHERE WHAT IT READS IS OF BULK AT MOST 1048576: true; the input reads as it did. -/
def linpolyNilUptoRow : OpenClaim := { program := "ytnhbdhgbmjcjdaa", sum := "321bc6fb068f616fdcf2d3cf8e6beba0be765c3e999f3afca02eee2649ae938e", func := "steeple/steeplelaw05.LinpolyNil", spec := "linpolyNil", unfollowed := true, recurses := true, apart := false, narrowed := true }
def LinpolyNilUptoSaid : Prop := linpolyNilUptoRow.holds Try.pinned (OpenSpec.upto linpolyNilSpec)

/-- 'steeplelaw05.LinpolyPlain', WHERE WHAT IT READS IS OF BULK AT MOST 1048576: true; the input reads as it did. -/
def linpolyPlainUptoRow : OpenClaim := { program := "ytnhbdhgbmjcjdaa", sum := "321bc6fb068f616fdcf2d3cf8e6beba0be765c3e999f3afca02eee2649ae938e", func := "steeple/steeplelaw05.LinpolyPlain", spec := "linpolyPlain", unfollowed := true, recurses := true, apart := false, narrowed := true }
def LinpolyPlainUptoSaid : Prop := linpolyPlainUptoRow.holds Try.pinned (OpenSpec.upto linpolyPlainSpec)

/-- 'steeplelaw05.LinpolyValues', WHERE WHAT IT READS IS OF BULK AT MOST 1048576: true; the input reads as it did. -/
def linpolyValuesUptoRow : OpenClaim := { program := "ytnhbdhgbmjcjdaa", sum := "321bc6fb068f616fdcf2d3cf8e6beba0be765c3e999f3afca02eee2649ae938e", func := "steeple/steeplelaw05.LinpolyValues", spec := "linpolyValues", unfollowed := true, recurses := true, apart := false, narrowed := true }
def LinpolyValuesUptoSaid : Prop := linpolyValuesUptoRow.holds Try.pinned (OpenSpec.upto linpolyValuesSpec)

end Rows
end Go.Proofs.Ytnhbdhgbmjcjdaa
