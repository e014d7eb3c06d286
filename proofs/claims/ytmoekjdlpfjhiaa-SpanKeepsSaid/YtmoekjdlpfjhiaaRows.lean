/-
  No cell of these rows narrows 'for every input' (looked for: loops, veiled, ifaces, maps, wideKeys, modest, calm, conditions, laid).
  DERIVED. THE GIVEN ROWS OF THIS SEAT. 6 by the template 'for every input the law returns true; each argument reads behind the call as it read before'; 0 by the template 'total and deterministic' (their statements: YtmoekjdlpfjhiaaTotals.lean).
  GIVEN WITH THE SEED: the statements are not yours to turn. If you find one false, say at which input.
  Laid BY PROGRAM, IN A SANDBOX (cutbox-rows.mjs): the forced cells as the released guide's own fill.sh prints them over the translation adbabe7e1d9f5940… (all of the seat's roots in one cut). By AI agents, Wed Nov 11 2026. No macro, syntax, notation, axiom, sorry.
-/
import Derived.Test.YtmoekjdlpfjhiaaChecked
import GoSem.Claim
import GoSem.ClaimJoined
import GoSem.ClaimMapViews
import Derived.JoinedTies
import Derived.KernelRfl
namespace Go.Proofs.Ytmoekjdlpfjhiaa
/- THE CELL 'sum', in the pinned program and in every row, IS THE sha256 OF THE DUMP (.gsa) THAT YtmoekjdlpfjhiaaProg.lean LOADS. Nothing in Lean hashes anything: it is a label: what it is worth is what the hold of that sum in a sandbox is worth. -/
noncomputable def Try.pinned : Pinned := { name := "ytmoekjdlpfjhiaa", sum := "adbabe7e1d9f594086d91b66f48f8238fea55b2c006ae4f04cd1b275d00534e5", checked := Try.checked }
namespace Rows
def none {H : Type} : Left H := { results := [], args := [] }

/-- 'steeplelaw16.ExprOdd': WHATEVER THE INPUT: true; the input reads as it did. -/
def exprOddSpec : ChangeSpec := { name := "exprOdd", fn := fun _ => fun
  | [d1, d2] => { results := [.lit (.bool true)], args := [d1, d2] }
  | _ => none }
def exprOddRow : OpenClaim := { program := "ytmoekjdlpfjhiaa", sum := "adbabe7e1d9f594086d91b66f48f8238fea55b2c006ae4f04cd1b275d00534e5", func := "steeple/steeplelaw16.ExprOdd", spec := "exprOdd", recurses := true, apart := false }
def ExprOddSaid : Prop := exprOddRow.holds Try.pinned (OpenSpec.ofChange exprOddSpec)

/-- ITS FALSE NEIGHBOUR: 'it returns false'. Refute it at one input. -/
def exprOddWrong : ChangeSpec := { name := "exprOdd", fn := fun _ => fun
  | [d1, d2] => { results := [.lit (.bool false)], args := [d1, d2] }
  | _ => none }
def ExprOddWrongFalsely : Prop := exprOddRow.holds Try.pinned (OpenSpec.ofChange exprOddWrong)

/-- 'steeplelaw16.ExprTrees': WHATEVER THE INPUT: true; the input reads as it did. -/
def exprTreesSpec : ChangeSpec := { name := "exprTrees", fn := fun _ => fun
  | [d1, d2, d3] => { results := [.lit (.bool true)], args := [d1, d2, d3] }
  | _ => none }
def exprTreesRow : OpenClaim := { program := "ytmoekjdlpfjhiaa", sum := "adbabe7e1d9f594086d91b66f48f8238fea55b2c006ae4f04cd1b275d00534e5", func := "steeple/steeplelaw16.ExprTrees", spec := "exprTrees", recurses := true, apart := false }
def ExprTreesSaid : Prop := exprTreesRow.holds Try.pinned (OpenSpec.ofChange exprTreesSpec)

/-- ITS FALSE NEIGHBOUR: 'it returns false'. Refute it at one input. -/
def exprTreesWrong : ChangeSpec := { name := "exprTrees", fn := fun _ => fun
  | [d1, d2, d3] => { results := [.lit (.bool false)], args := [d1, d2, d3] }
  | _ => none }
def ExprTreesWrongFalsely : Prop := exprTreesRow.holds Try.pinned (OpenSpec.ofChange exprTreesWrong)

/-- 'steeplelaw09.WeaveNone': WHATEVER THE INPUT: true; the input reads as it did. -/
def weaveNoneSpec : ChangeSpec := { name := "weaveNone", fn := fun _ => fun
  | [d] => { results := [.lit (.bool true)], args := [d] }
  | _ => none }
def weaveNoneRow : OpenClaim := { program := "ytmoekjdlpfjhiaa", sum := "adbabe7e1d9f594086d91b66f48f8238fea55b2c006ae4f04cd1b275d00534e5", func := "steeple/steeplelaw09.WeaveNone", spec := "weaveNone", unfollowed := true, recurses := true, apart := false }
def WeaveNoneSaid : Prop := weaveNoneRow.holds Try.pinned (OpenSpec.ofChange weaveNoneSpec)

/-- ITS FALSE NEIGHBOUR: 'it returns false'. Refute it at one input. -/
def weaveNoneWrong : ChangeSpec := { name := "weaveNone", fn := fun _ => fun
  | [d] => { results := [.lit (.bool false)], args := [d] }
  | _ => none }
def WeaveNoneWrongFalsely : Prop := weaveNoneRow.holds Try.pinned (OpenSpec.ofChange weaveNoneWrong)

/-- 'steeplelaw23.RingMasks': WHATEVER THE INPUT: true; the input reads as it did. -/
def ringMasksSpec : ChangeSpec := { name := "ringMasks", fn := fun _ => fun
  | [d1, d2, d3] => { results := [.lit (.bool true)], args := [d1, d2, d3] }
  | _ => none }
def ringMasksRow : OpenClaim := { program := "ytmoekjdlpfjhiaa", sum := "adbabe7e1d9f594086d91b66f48f8238fea55b2c006ae4f04cd1b275d00534e5", func := "steeple/steeplelaw23.RingMasks", spec := "ringMasks", unfollowed := true, recurses := true, apart := false }
def RingMasksSaid : Prop := ringMasksRow.holds Try.pinned (OpenSpec.ofChange ringMasksSpec)

/-- ITS FALSE NEIGHBOUR: 'it returns false'. Refute it at one input. -/
def ringMasksWrong : ChangeSpec := { name := "ringMasks", fn := fun _ => fun
  | [d1, d2, d3] => { results := [.lit (.bool false)], args := [d1, d2, d3] }
  | _ => none }
def RingMasksWrongFalsely : Prop := ringMasksRow.holds Try.pinned (OpenSpec.ofChange ringMasksWrong)

/-- 'steeplelaw04.SpanBases': WHATEVER THE INPUT: true; the input reads as it did. -/
def spanBasesSpec : ChangeSpec := { name := "spanBases", fn := fun _ => fun
  | [d1, d2, d3] => { results := [.lit (.bool true)], args := [d1, d2, d3] }
  | _ => none }
def spanBasesRow : OpenClaim := { program := "ytmoekjdlpfjhiaa", sum := "adbabe7e1d9f594086d91b66f48f8238fea55b2c006ae4f04cd1b275d00534e5", func := "steeple/steeplelaw04.SpanBases", spec := "spanBases", unfollowed := true, recurses := true, apart := false }
def SpanBasesSaid : Prop := spanBasesRow.holds Try.pinned (OpenSpec.ofChange spanBasesSpec)

/-- ITS FALSE NEIGHBOUR: 'it returns false'. Refute it at one input. -/
def spanBasesWrong : ChangeSpec := { name := "spanBases", fn := fun _ => fun
  | [d1, d2, d3] => { results := [.lit (.bool false)], args := [d1, d2, d3] }
  | _ => none }
def SpanBasesWrongFalsely : Prop := spanBasesRow.holds Try.pinned (OpenSpec.ofChange spanBasesWrong)

/-- 'steeplelaw04.SpanKeeps': WHATEVER THE INPUT: true; the input reads as it did. -/
def spanKeepsSpec : ChangeSpec := { name := "spanKeeps", fn := fun _ => fun
  | [d1, d2] => { results := [.lit (.bool true)], args := [d1, d2] }
  | _ => none }
def spanKeepsRow : OpenClaim := { program := "ytmoekjdlpfjhiaa", sum := "adbabe7e1d9f594086d91b66f48f8238fea55b2c006ae4f04cd1b275d00534e5", func := "steeple/steeplelaw04.SpanKeeps", spec := "spanKeeps", unfollowed := true, recurses := true, apart := false }
def SpanKeepsSaid : Prop := spanKeepsRow.holds Try.pinned (OpenSpec.ofChange spanKeepsSpec)

/-- ITS FALSE NEIGHBOUR: 'it returns false'. Refute it at one input. -/
def spanKeepsWrong : ChangeSpec := { name := "spanKeeps", fn := fun _ => fun
  | [d1, d2] => { results := [.lit (.bool false)], args := [d1, d2] }
  | _ => none }
def SpanKeepsWrongFalsely : Prop := spanKeepsRow.holds Try.pinned (OpenSpec.ofChange spanKeepsWrong)

/- THE SECOND FORM. 'bulk': how many values and letters a reading holds, each counted each time it is reached (what is shared counts as often as it is met; a slice's spare places count too). A statement '..UptoSaid' is the law's where the arguments, and the package variables that the reading takes, are together of bulk at most 1048576: NARROWER than '..Said'. Prove '..Said' where nothing that the law and all that it calls make is longer than what came in: it says more and counts as full. Else prove '..UptoSaid'. A law counts once. -/
mutual
def uptoBulk {H : Type} : DataW H → Nat
  | .lit (.string bytes) => bytes.length + 1
  | .lit _ => 1
  | .nil => 1
  | .ptr d => uptoBulk d + 1
  | .slice elems spare => uptoBulkAll elems + uptoBulkAll spare + 1
  | .agg parts => uptoBulkAll parts + 1
  | .iface _ d => uptoBulk d + 1
  | .map entries => uptoBulkEntries entries + 1
  | .held _ => 1
def uptoBulkAll {H : Type} : List (DataW H) → Nat
  | [] => 0
  | d :: r => uptoBulk d + uptoBulkAll r
def uptoBulkEntries {H : Type} : List (Lit × DataW H) → Nat
  | [] => 0
  | x :: r => uptoBulkEntry x + uptoBulkEntries r
def uptoBulkEntry {H : Type} : Lit × DataW H → Nat
  | (.string bytes, d) => bytes.length + uptoBulk d + 1
  | (_, d) => uptoBulk d + 1
 end
def uptoSmall : (H : Type) → List (DataW H) → Bool := fun _ ds => decide (uptoBulkAll ds ≤ 1048576)
def OpenSpec.upto (s : _root_.Go.ChangeSpec) : _root_.Go.OpenSpec := { _root_.Go.OpenSpec.ofChange s with cond := some uptoSmall }

/-- 'steeplelaw16.ExprOdd', WHERE WHAT IT READS IS OF BULK AT MOST 1048576: true; the input reads as it did. -/
def exprOddUptoRow : OpenClaim := { program := "ytmoekjdlpfjhiaa", sum := "adbabe7e1d9f594086d91b66f48f8238fea55b2c006ae4f04cd1b275d00534e5", func := "steeple/steeplelaw16.ExprOdd", spec := "exprOdd", recurses := true, apart := false, narrowed := true }
def ExprOddUptoSaid : Prop := exprOddUptoRow.holds Try.pinned (OpenSpec.upto exprOddSpec)

/-- 'steeplelaw16.ExprTrees', WHERE WHAT IT READS IS OF BULK AT MOST 1048576: true; the input reads as it did. -/
def exprTreesUptoRow : OpenClaim := { program := "ytmoekjdlpfjhiaa", sum := "adbabe7e1d9f594086d91b66f48f8238fea55b2c006ae4f04cd1b275d00534e5", func := "steeple/steeplelaw16.ExprTrees", spec := "exprTrees", recurses := true, apart := false, narrowed := true }
def ExprTreesUptoSaid : Prop := exprTreesUptoRow.holds Try.pinned (OpenSpec.upto exprTreesSpec)

/-- 'steeplelaw09.WeaveNone', WHERE WHAT IT READS IS OF BULK AT MOST 1048576: true; the input reads as it did. -/
def weaveNoneUptoRow : OpenClaim := { program := "ytmoekjdlpfjhiaa", sum := "adbabe7e1d9f594086d91b66f48f8238fea55b2c006ae4f04cd1b275d00534e5", func := "steeple/steeplelaw09.WeaveNone", spec := "weaveNone", unfollowed := true, recurses := true, apart := false, narrowed := true }
def WeaveNoneUptoSaid : Prop := weaveNoneUptoRow.holds Try.pinned (OpenSpec.upto weaveNoneSpec)

/-- 'steeplelaw23.RingMasks', WHERE WHAT IT READS IS OF BULK AT MOST 1048576: true; the input reads as it did. -/
def ringMasksUptoRow : OpenClaim := { program := "ytmoekjdlpfjhiaa", sum := "adbabe7e1d9f594086d91b66f48f8238fea55b2c006ae4f04cd1b275d00534e5", func := "steeple/steeplelaw23.RingMasks", spec := "ringMasks", unfollowed := true, recurses := true, apart := false, narrowed := true }
def RingMasksUptoSaid : Prop := ringMasksUptoRow.holds Try.pinned (OpenSpec.upto ringMasksSpec)

/-- 'steeplelaw04.SpanBases', WHERE WHAT IT READS IS OF BULK AT MOST 1048576: true; the input reads as it did. -/
def spanBasesUptoRow : OpenClaim := { program := "ytmoekjdlpfjhiaa", sum := "adbabe7e1d9f594086d91b66f48f8238fea55b2c006ae4f04cd1b275d00534e5", func := "steeple/steeplelaw04.SpanBases", spec := "spanBases", unfollowed := true, recurses := true, apart := false, narrowed := true }
def SpanBasesUptoSaid : Prop := spanBasesUptoRow.holds Try.pinned (OpenSpec.upto spanBasesSpec)

/-- 'steeplelaw04.SpanKeeps', WHERE WHAT IT READS IS OF BULK AT MOST 1048576: true; the input reads as it did. -/
def spanKeepsUptoRow : OpenClaim := { program := "ytmoekjdlpfjhiaa", sum := "adbabe7e1d9f594086d91b66f48f8238fea55b2c006ae4f04cd1b275d00534e5", func := "steeple/steeplelaw04.SpanKeeps", spec := "spanKeeps", unfollowed := true, recurses := true, apart := false, narrowed := true }
def SpanKeepsUptoSaid : Prop := spanKeepsUptoRow.holds Try.pinned (OpenSpec.upto spanKeepsSpec)

end Rows
end Go.Proofs.Ytmoekjdlpfjhiaa
