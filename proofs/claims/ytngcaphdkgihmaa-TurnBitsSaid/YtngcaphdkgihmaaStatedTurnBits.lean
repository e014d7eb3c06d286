-- Own text: the statement that is left of the law TurnBits, and what a reading of its arguments is.
import Derived.Test.YtngcaphdkgihmaaFxsteeplelaw18TurnBits
import Derived.Test.YtngcaphdkgihmaaReads
namespace Go.Proofs.Ytngcaphdkgihmaa.Stated.turnBits
open Go.RowKit Go.Proofs.YtngcaphdkgihmaaW.PrintWords Go.Proofs.Ytngcaphdkgihmaa.P Go.Proofs.Ytngcaphdkgihmaa.Reads
def Pure : Prop := ∀ (x0 : S23) (x1 : List Bool) (x2 : Int), (((Lit.int .i64 x0.f0).wf = true) ∧ ((Lit.int .i64 x0.f1).wf = true) ∧ ((Lit.int .i64 x0.f2).wf = true)) → (((∀ x_ ∈ x1, True) ∧ x1.length ≤ maxLen)) → ((Lit.int .i64 x2).wf = true) → ∃ k, steeplelaw18_TurnBits.f k x0.f0 x0.f1 x0.f2 x1 x2 = some true
end Go.Proofs.Ytngcaphdkgihmaa.Stated.turnBits
