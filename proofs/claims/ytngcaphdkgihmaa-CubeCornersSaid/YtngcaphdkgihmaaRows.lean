/-
  No cell of these rows narrows 'for every input' (looked for: loops, veiled, ifaces, maps, wideKeys, modest, calm, conditions, laid).
  DERIVED. THE GIVEN ROWS OF THIS SEAT. 12 by the template 'for every input the law returns true; each argument reads behind the call as it read before'; 0 by the template 'total and deterministic' (their statements: YtngcaphdkgihmaaTotals.lean).
  GIVEN WITH THE SEED: the statements are not yours to turn. If you find one false, say at which input.
  Laid BY PROGRAM, IN A SANDBOX (cutbox-rows.mjs): the forced cells as the released guide's own fill.sh prints them over the translation d6b3f232234155d8… (all of the seat's roots in one cut). By AI agents, Wed Nov 11 2026. No macro, syntax, notation, axiom, sorry.
-/
import Derived.Test.YtngcaphdkgihmaaChecked
import GoSem.Claim
import GoSem.ClaimJoined
import GoSem.ClaimMapViews
import Derived.JoinedTies
import Derived.KernelRfl
namespace Go.Proofs.Ytngcaphdkgihmaa
/- THE CELL 'sum', in the pinned program and in every row, IS THE sha256 OF THE DUMP (.gsa) THAT YtngcaphdkgihmaaProg.lean LOADS. Nothing in Lean hashes anything: it is a label: what it is worth is what the hold of that sum in a sandbox is worth. -/
noncomputable def Try.pinned : Pinned := { name := "ytngcaphdkgihmaa", sum := "d6b3f232234155d8e559cb1465fa65b182755f5ed16782a4e8c6c3ca024759b7", checked := Try.checked }
namespace Rows
def none {H : Type} : Left H := { results := [], args := [] }

/-- 'steeplelaw18.TurnBits': WHATEVER THE INPUT: true; the input reads as it did. -/
def turnBitsSpec : ChangeSpec := { name := "turnBits", fn := fun _ => fun
  | [d1, d2, d3] => { results := [.lit (.bool true)], args := [d1, d2, d3] }
  | _ => none }
def turnBitsRow : OpenClaim := { program := "ytngcaphdkgihmaa", sum := "d6b3f232234155d8e559cb1465fa65b182755f5ed16782a4e8c6c3ca024759b7", func := "steeple/steeplelaw18.TurnBits", spec := "turnBits", apart := false }
def TurnBitsSaid : Prop := turnBitsRow.holds Try.pinned (OpenSpec.ofChange turnBitsSpec)

/-- ITS FALSE NEIGHBOUR: 'it returns false'. Refute it at one input. -/
def turnBitsWrong : ChangeSpec := { name := "turnBits", fn := fun _ => fun
  | [d1, d2, d3] => { results := [.lit (.bool false)], args := [d1, d2, d3] }
  | _ => none }
def TurnBitsWrongFalsely : Prop := turnBitsRow.holds Try.pinned (OpenSpec.ofChange turnBitsWrong)

/-- 'steeplelaw18.TurnBack': WHATEVER THE INPUT: true; the input reads as it did. -/
def turnBackSpec : ChangeSpec := { name := "turnBack", fn := fun _ => fun
  | [d1, d2, d3] => { results := [.lit (.bool true)], args := [d1, d2, d3] }
  | _ => none }
def turnBackRow : OpenClaim := { program := "ytngcaphdkgihmaa", sum := "d6b3f232234155d8e559cb1465fa65b182755f5ed16782a4e8c6c3ca024759b7", func := "steeple/steeplelaw18.TurnBack", spec := "turnBack", apart := false }
def TurnBackSaid : Prop := turnBackRow.holds Try.pinned (OpenSpec.ofChange turnBackSpec)

/-- ITS FALSE NEIGHBOUR: 'it returns false'. Refute it at one input. -/
def turnBackWrong : ChangeSpec := { name := "turnBack", fn := fun _ => fun
  | [d1, d2, d3] => { results := [.lit (.bool false)], args := [d1, d2, d3] }
  | _ => none }
def TurnBackWrongFalsely : Prop := turnBackRow.holds Try.pinned (OpenSpec.ofChange turnBackWrong)

/-- 'steeplelaw09.WeaveCuts': WHATEVER THE INPUT: true; the input reads as it did. -/
def weaveCutsSpec : ChangeSpec := { name := "weaveCuts", fn := fun _ => fun
  | [d1, d2] => { results := [.lit (.bool true)], args := [d1, d2] }
  | _ => none }
def weaveCutsRow : OpenClaim := { program := "ytngcaphdkgihmaa", sum := "d6b3f232234155d8e559cb1465fa65b182755f5ed16782a4e8c6c3ca024759b7", func := "steeple/steeplelaw09.WeaveCuts", spec := "weaveCuts", unfollowed := true, recurses := true, apart := false }
def WeaveCutsSaid : Prop := weaveCutsRow.holds Try.pinned (OpenSpec.ofChange weaveCutsSpec)

/-- ITS FALSE NEIGHBOUR: 'it returns false'. Refute it at one input. -/
def weaveCutsWrong : ChangeSpec := { name := "weaveCuts", fn := fun _ => fun
  | [d1, d2] => { results := [.lit (.bool false)], args := [d1, d2] }
  | _ => none }
def WeaveCutsWrongFalsely : Prop := weaveCutsRow.holds Try.pinned (OpenSpec.ofChange weaveCutsWrong)

/-- 'steeplelaw09.WeaveBits': WHATEVER THE INPUT: true; the input reads as it did. -/
def weaveBitsSpec : ChangeSpec := { name := "weaveBits", fn := fun _ => fun
  | [d1, d2] => { results := [.lit (.bool true)], args := [d1, d2] }
  | _ => none }
def weaveBitsRow : OpenClaim := { program := "ytngcaphdkgihmaa", sum := "d6b3f232234155d8e559cb1465fa65b182755f5ed16782a4e8c6c3ca024759b7", func := "steeple/steeplelaw09.WeaveBits", spec := "weaveBits", unfollowed := true, recurses := true, apart := false }
def WeaveBitsSaid : Prop := weaveBitsRow.holds Try.pinned (OpenSpec.ofChange weaveBitsSpec)

/-- ITS FALSE NEIGHBOUR: 'it returns false'. Refute it at one input. -/
def weaveBitsWrong : ChangeSpec := { name := "weaveBits", fn := fun _ => fun
  | [d1, d2] => { results := [.lit (.bool false)], args := [d1, d2] }
  | _ => none }
def WeaveBitsWrongFalsely : Prop := weaveBitsRow.holds Try.pinned (OpenSpec.ofChange weaveBitsWrong)

/-- 'steeplelaw09.WeaveGathers': WHATEVER THE INPUT: true; the input reads as it did. -/
def weaveGathersSpec : ChangeSpec := { name := "weaveGathers", fn := fun _ => fun
  | [d1, d2, d3] => { results := [.lit (.bool true)], args := [d1, d2, d3] }
  | _ => none }
def weaveGathersRow : OpenClaim := { program := "ytngcaphdkgihmaa", sum := "d6b3f232234155d8e559cb1465fa65b182755f5ed16782a4e8c6c3ca024759b7", func := "steeple/steeplelaw09.WeaveGathers", spec := "weaveGathers", unfollowed := true, recurses := true, apart := false }
def WeaveGathersSaid : Prop := weaveGathersRow.holds Try.pinned (OpenSpec.ofChange weaveGathersSpec)

/-- ITS FALSE NEIGHBOUR: 'it returns false'. Refute it at one input. -/
def weaveGathersWrong : ChangeSpec := { name := "weaveGathers", fn := fun _ => fun
  | [d1, d2, d3] => { results := [.lit (.bool false)], args := [d1, d2, d3] }
  | _ => none }
def WeaveGathersWrongFalsely : Prop := weaveGathersRow.holds Try.pinned (OpenSpec.ofChange weaveGathersWrong)

/-- 'steeplelaw15.CubeValues': WHATEVER THE INPUT: true; the input reads as it did. -/
def cubeValuesSpec : ChangeSpec := { name := "cubeValues", fn := fun _ => fun
  | [d1, d2, d3] => { results := [.lit (.bool true)], args := [d1, d2, d3] }
  | _ => none }
def cubeValuesRow : OpenClaim := { program := "ytngcaphdkgihmaa", sum := "d6b3f232234155d8e559cb1465fa65b182755f5ed16782a4e8c6c3ca024759b7", func := "steeple/steeplelaw15.CubeValues", spec := "cubeValues", unfollowed := true, recurses := true, apart := false }
def CubeValuesSaid : Prop := cubeValuesRow.holds Try.pinned (OpenSpec.ofChange cubeValuesSpec)

/-- ITS FALSE NEIGHBOUR: 'it returns false'. Refute it at one input. -/
def cubeValuesWrong : ChangeSpec := { name := "cubeValues", fn := fun _ => fun
  | [d1, d2, d3] => { results := [.lit (.bool false)], args := [d1, d2, d3] }
  | _ => none }
def CubeValuesWrongFalsely : Prop := cubeValuesRow.holds Try.pinned (OpenSpec.ofChange cubeValuesWrong)

/-- 'steeplelaw15.CubeSums': WHATEVER THE INPUT: true; the input reads as it did. -/
def cubeSumsSpec : ChangeSpec := { name := "cubeSums", fn := fun _ => fun
  | [d1, d2, d3] => { results := [.lit (.bool true)], args := [d1, d2, d3] }
  | _ => none }
def cubeSumsRow : OpenClaim := { program := "ytngcaphdkgihmaa", sum := "d6b3f232234155d8e559cb1465fa65b182755f5ed16782a4e8c6c3ca024759b7", func := "steeple/steeplelaw15.CubeSums", spec := "cubeSums", unfollowed := true, recurses := true, apart := false }
def CubeSumsSaid : Prop := cubeSumsRow.holds Try.pinned (OpenSpec.ofChange cubeSumsSpec)

/-- ITS FALSE NEIGHBOUR: 'it returns false'. Refute it at one input. -/
def cubeSumsWrong : ChangeSpec := { name := "cubeSums", fn := fun _ => fun
  | [d1, d2, d3] => { results := [.lit (.bool false)], args := [d1, d2, d3] }
  | _ => none }
def CubeSumsWrongFalsely : Prop := cubeSumsRow.holds Try.pinned (OpenSpec.ofChange cubeSumsWrong)

/-- 'steeplelaw16.ExprValues': WHATEVER THE INPUT: true; the input reads as it did. -/
def exprValuesSpec : ChangeSpec := { name := "exprValues", fn := fun _ => fun
  | [d1, d2, d3] => { results := [.lit (.bool true)], args := [d1, d2, d3] }
  | _ => none }
def exprValuesRow : OpenClaim := { program := "ytngcaphdkgihmaa", sum := "d6b3f232234155d8e559cb1465fa65b182755f5ed16782a4e8c6c3ca024759b7", func := "steeple/steeplelaw16.ExprValues", spec := "exprValues", recurses := true, apart := false }
def ExprValuesSaid : Prop := exprValuesRow.holds Try.pinned (OpenSpec.ofChange exprValuesSpec)

/-- ITS FALSE NEIGHBOUR: 'it returns false'. Refute it at one input. -/
def exprValuesWrong : ChangeSpec := { name := "exprValues", fn := fun _ => fun
  | [d1, d2, d3] => { results := [.lit (.bool false)], args := [d1, d2, d3] }
  | _ => none }
def ExprValuesWrongFalsely : Prop := exprValuesRow.holds Try.pinned (OpenSpec.ofChange exprValuesWrong)

/-- 'steeplelaw15.CubeCorners': WHATEVER THE INPUT: true; the input reads as it did. -/
def cubeCornersSpec : ChangeSpec := { name := "cubeCorners", fn := fun _ => fun
  | [d1, d2, d3] => { results := [.lit (.bool true)], args := [d1, d2, d3] }
  | _ => none }
def cubeCornersRow : OpenClaim := { program := "ytngcaphdkgihmaa", sum := "d6b3f232234155d8e559cb1465fa65b182755f5ed16782a4e8c6c3ca024759b7", func := "steeple/steeplelaw15.CubeCorners", spec := "cubeCorners", unfollowed := true, recurses := true, apart := false }
def CubeCornersSaid : Prop := cubeCornersRow.holds Try.pinned (OpenSpec.ofChange cubeCornersSpec)

/-- ITS FALSE NEIGHBOUR: 'it returns false'. Refute it at one input. -/
def cubeCornersWrong : ChangeSpec := { name := "cubeCorners", fn := fun _ => fun
  | [d1, d2, d3] => { results := [.lit (.bool false)], args := [d1, d2, d3] }
  | _ => none }
def CubeCornersWrongFalsely : Prop := cubeCornersRow.holds Try.pinned (OpenSpec.ofChange cubeCornersWrong)

/-- 'steeplelaw15.CubeBinds': WHATEVER THE INPUT: true; the input reads as it did. -/
def cubeBindsSpec : ChangeSpec := { name := "cubeBinds", fn := fun _ => fun
  | [d1, d2, d3] => { results := [.lit (.bool true)], args := [d1, d2, d3] }
  | _ => none }
def cubeBindsRow : OpenClaim := { program := "ytngcaphdkgihmaa", sum := "d6b3f232234155d8e559cb1465fa65b182755f5ed16782a4e8c6c3ca024759b7", func := "steeple/steeplelaw15.CubeBinds", spec := "cubeBinds", unfollowed := true, recurses := true, apart := false }
def CubeBindsSaid : Prop := cubeBindsRow.holds Try.pinned (OpenSpec.ofChange cubeBindsSpec)

/-- ITS FALSE NEIGHBOUR: 'it returns false'. Refute it at one input. -/
def cubeBindsWrong : ChangeSpec := { name := "cubeBinds", fn := fun _ => fun
  | [d1, d2, d3] => { results := [.lit (.bool false)], args := [d1, d2, d3] }
  | _ => none }
def CubeBindsWrongFalsely : Prop := cubeBindsRow.holds Try.pinned (OpenSpec.ofChange cubeBindsWrong)

/-- 'steeplelaw16.ExprChecks': WHATEVER THE INPUT: true; the input reads as it did. -/
def exprChecksSpec : ChangeSpec := { name := "exprChecks", fn := fun _ => fun
  | [d1, d2, d3] => { results := [.lit (.bool true)], args := [d1, d2, d3] }
  | _ => none }
def exprChecksRow : OpenClaim := { program := "ytngcaphdkgihmaa", sum := "d6b3f232234155d8e559cb1465fa65b182755f5ed16782a4e8c6c3ca024759b7", func := "steeple/steeplelaw16.ExprChecks", spec := "exprChecks", recurses := true, apart := false }
def ExprChecksSaid : Prop := exprChecksRow.holds Try.pinned (OpenSpec.ofChange exprChecksSpec)

/-- ITS FALSE NEIGHBOUR: 'it returns false'. Refute it at one input. -/
def exprChecksWrong : ChangeSpec := { name := "exprChecks", fn := fun _ => fun
  | [d1, d2, d3] => { results := [.lit (.bool false)], args := [d1, d2, d3] }
  | _ => none }
def ExprChecksWrongFalsely : Prop := exprChecksRow.holds Try.pinned (OpenSpec.ofChange exprChecksWrong)

/-- 'steeplelaw19.PackvPairs': WHATEVER THE INPUT: true; the input reads as it did. -/
def packvPairsSpec : ChangeSpec := { name := "packvPairs", fn := fun _ => fun
  | [d1, d2] => { results := [.lit (.bool true)], args := [d1, d2] }
  | _ => none }
def packvPairsRow : OpenClaim := { program := "ytngcaphdkgihmaa", sum := "d6b3f232234155d8e559cb1465fa65b182755f5ed16782a4e8c6c3ca024759b7", func := "steeple/steeplelaw19.PackvPairs", spec := "packvPairs", unfollowed := true, recurses := true, apart := false }
def PackvPairsSaid : Prop := packvPairsRow.holds Try.pinned (OpenSpec.ofChange packvPairsSpec)

/-- ITS FALSE NEIGHBOUR: 'it returns false'. Refute it at one input. -/
def packvPairsWrong : ChangeSpec := { name := "packvPairs", fn := fun _ => fun
  | [d1, d2] => { results := [.lit (.bool false)], args := [d1, d2] }
  | _ => none }
def PackvPairsWrongFalsely : Prop := packvPairsRow.holds Try.pinned (OpenSpec.ofChange packvPairsWrong)

/- THE SECOND FORM. 'bulk': how many values and letters a reading holds, each counted each time it is reached (what is shared counts as often as it is met; a slice's spare places count too). A statement '..UptoSaid' is the law's where the arguments, and the package variables that the reading takes, are together of bulk at most 1048576: NARROWER than '..Said'. Prove '..Said' where nothing that the law and all that it calls make is longer than what came in: it says more and counts as full. Else prove '..UptoSaid'. A law counts once. -/
mutual
def uptoBulk {H : Type} : DataW H → Nat
  | .lit (.string bytes) => bytes.length + 1
  | .lit _ => 1
  | .nil => 1
  | .ptr d => uptoBulk d + 1
  | .slice elems spare => uptoBulkAll elems + uptoBulkAll spare + 1
  | .agg parts => uptoBulkAll parts + 1
  | .iface _ d => uptoBulk d + 1
  | .map entries => uptoBulkEntries entries + 1
  | .held _ => 1
def uptoBulkAll {H : Type} : List (DataW H) → Nat
  | [] => 0
  | d :: r => uptoBulk d + uptoBulkAll r
def uptoBulkEntries {H : Type} : List (Lit × DataW H) → Nat
  | [] => 0
  | x :: r => uptoBulkEntry x + uptoBulkEntries r
def uptoBulkEntry {H : Type} : Lit × DataW H → Nat
  | (.string bytes, d) => bytes.length + uptoBulk d + 1
  | (_, d) => uptoBulk d + 1
 end
def uptoSmall : (H : Type) → List (DataW H) → Bool := fun _ ds => decide (uptoBulkAll ds ≤ 1048576)
def OpenSpec.upto (s : _root_.Go.ChangeSpec) : _root_.Go.OpenSpec := { _root_.Go.OpenSpec.ofChange s with cond := some uptoSmall }

/-- 'steeplelaw18.TurnBits', WHERE WHAT IT READS IS OF BULK AT MOST 1048576: true; the input reads as it did. -/
def turnBitsUptoRow : OpenClaim := { program := "ytngcaphdkgihmaa", sum := "d6b3f232234155d8e559cb1465fa65b182755f5ed16782a4e8c6c3ca024759b7", func := "steeple/steeplelaw18.TurnBits", spec := "turnBits", apart := false, narrowed := true }
def TurnBitsUptoSaid : Prop := turnBitsUptoRow.holds Try.pinned (OpenSpec.upto turnBitsSpec)

/-- 'steeplelaw18.TurnBack', WHERE WHAT IT READS IS OF BULK AT MOST 1048576: true; the input reads as it did. -/
def turnBackUptoRow : OpenClaim := { program := "ytngcaphdkgihmaa", sum := "d6b3f232234155d8e559cb1465fa65b182755f5ed16782a4e8c6c3ca024759b7", func := "steeple/steeplelaw18.TurnBack", spec := "turnBack", apart := false, narrowed := true }
def TurnBackUptoSaid : Prop := turnBackUptoRow.holds Try.pinned (OpenSpec.upto turnBackSpec)

/-- 'steeplelaw09.WeaveCuts', WHERE WHAT IT READS IS OF BULK AT MOST 1048576: true; the input reads as it did. -/
def weaveCutsUptoRow : OpenClaim := { program := "ytngcaphdkgihmaa", sum := "d6b3f232234155d8e559cb1465fa65b182755f5ed16782a4e8c6c3ca024759b7", func := "steeple/steeplelaw09.WeaveCuts", spec := "weaveCuts", unfollowed := true, recurses := true, apart := false, narrowed := true }
def WeaveCutsUptoSaid : Prop := weaveCutsUptoRow.holds Try.pinned (OpenSpec.upto weaveCutsSpec)

/-- 'steeplelaw09.WeaveBits', WHERE WHAT IT READS IS OF BULK AT MOST 1048576: true; the input reads as it did. -/
def weaveBitsUptoRow : OpenClaim := { program := "ytngcaphdkgihmaa", sum := "d6b3f232234155d8e559cb1465fa65b182755f5ed16782a4e8c6c3ca024759b7", func := "steeple/steeplelaw09.WeaveBits", spec := "weaveBits", unfollowed := true, recurses := true, apart := false, narrowed := true }
def WeaveBitsUptoSaid : Prop := weaveBitsUptoRow.holds Try.pinned (OpenSpec.upto weaveBitsSpec)

/-- 'steeplelaw09.WeaveGathers', WHERE WHAT IT READS IS OF BULK AT MOST 1048576: true; the input reads as it did. -/
def weaveGathersUptoRow : OpenClaim := { program := "ytngcaphdkgihmaa", sum := "d6b3f232234155d8e559cb1465fa65b182755f5ed16782a4e8c6c3ca024759b7", func := "steeple/steeplelaw09.WeaveGathers", spec := "weaveGathers", unfollowed := true, recurses := true, apart := false, narrowed := true }
def WeaveGathersUptoSaid : Prop := weaveGathersUptoRow.holds Try.pinned (OpenSpec.upto weaveGathersSpec)

/-- 'steeplelaw15.CubeValues', WHERE WHAT IT READS IS OF BULK AT MOST 1048576: true; the input reads as it did. -/
def cubeValuesUptoRow : OpenClaim := { program := "ytngcaphdkgihmaa", sum := "d6b3f232234155d8e559cb1465fa65b182755f5ed16782a4e8c6c3ca024759b7", func := "steeple/steeplelaw15.CubeValues", spec := "cubeValues", unfollowed := true, recurses := true, apart := false, narrowed := true }
def CubeValuesUptoSaid : Prop := cubeValuesUptoRow.holds Try.pinned (OpenSpec.upto cubeValuesSpec)

/-- 'steeplelaw15.CubeSums', WHERE WHAT IT READS IS OF BULK AT MOST 1048576: true; the input reads as it did. -/
def cubeSumsUptoRow : OpenClaim := { program := "ytngcaphdkgihmaa", sum := "d6b3f232234155d8e559cb1465fa65b182755f5ed16782a4e8c6c3ca024759b7", func := "steeple/steeplelaw15.CubeSums", spec := "cubeSums", unfollowed := true, recurses := true, apart := false, narrowed := true }
def CubeSumsUptoSaid : Prop := cubeSumsUptoRow.holds Try.pinned (OpenSpec.upto cubeSumsSpec)

/-- 'steeplelaw16.ExprValues', WHERE WHAT IT READS IS OF BULK AT MOST 1048576: true; the input reads as it did. -/
def exprValuesUptoRow : OpenClaim := { program := "ytngcaphdkgihmaa", sum := "d6b3f232234155d8e559cb1465fa65b182755f5ed16782a4e8c6c3ca024759b7", func := "steeple/steeplelaw16.ExprValues", spec := "exprValues", recurses := true, apart := false, narrowed := true }
def ExprValuesUptoSaid : Prop := exprValuesUptoRow.holds Try.pinned (OpenSpec.upto exprValuesSpec)

/-- 'steeplelaw15.CubeCorners', WHERE WHAT IT READS IS OF BULK AT MOST 1048576: true; the input reads as it did. -/
def cubeCornersUptoRow : OpenClaim := { program := "ytngcaphdkgihmaa", sum := "d6b3f232234155d8e559cb1465fa65b182755f5ed16782a4e8c6c3ca024759b7", func := "steeple/steeplelaw15.CubeCorners", spec := "cubeCorners", unfollowed := true, recurses := true, apart := false, narrowed := true }
def CubeCornersUptoSaid : Prop := cubeCornersUptoRow.holds Try.pinned (OpenSpec.upto cubeCornersSpec)

/-- 'steeplelaw15.CubeBinds', WHERE WHAT IT READS IS OF BULK AT MOST 1048576: true; the input reads as it did. -/
def cubeBindsUptoRow : OpenClaim := { program := "ytngcaphdkgihmaa", sum := "d6b3f232234155d8e559cb1465fa65b182755f5ed16782a4e8c6c3ca024759b7", func := "steeple/steeplelaw15.CubeBinds", spec := "cubeBinds", unfollowed := true, recurses := true, apart := false, narrowed := true }
def CubeBindsUptoSaid : Prop := cubeBindsUptoRow.holds Try.pinned (OpenSpec.upto cubeBindsSpec)

/-- 'steeplelaw16.ExprChecks', WHERE WHAT IT READS IS OF BULK AT MOST 1048576: true; the input reads as it did. -/
def exprChecksUptoRow : OpenClaim := { program := "ytngcaphdkgihmaa", sum := "d6b3f232234155d8e559cb1465fa65b182755f5ed16782a4e8c6c3ca024759b7", func := "steeple/steeplelaw16.ExprChecks", spec := "exprChecks", recurses := true, apart := false, narrowed := true }
def ExprChecksUptoSaid : Prop := exprChecksUptoRow.holds Try.pinned (OpenSpec.upto exprChecksSpec)

/-- 'steeplelaw19.PackvPairs', WHERE WHAT IT READS IS OF BULK AT MOST 1048576: true; the input reads as it did. -/
def packvPairsUptoRow : OpenClaim := { program := "ytngcaphdkgihmaa", sum := "d6b3f232234155d8e559cb1465fa65b182755f5ed16782a4e8c6c3ca024759b7", func := "steeple/steeplelaw19.PackvPairs", spec := "packvPairs", unfollowed := true, recurses := true, apart := false, narrowed := true }
def PackvPairsUptoSaid : Prop := packvPairsUptoRow.holds Try.pinned (OpenSpec.upto packvPairsSpec)

end Rows
end Go.Proofs.Ytngcaphdkgihmaa
