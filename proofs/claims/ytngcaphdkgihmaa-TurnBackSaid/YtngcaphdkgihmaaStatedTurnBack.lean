-- Own text: the statement that is left of the law TurnBack, and what a reading of its arguments is.
import Derived.Test.YtngcaphdkgihmaaFxsteeplelaw18TurnBack
import Derived.Test.YtngcaphdkgihmaaReads
namespace Go.Proofs.Ytngcaphdkgihmaa.Stated.turnBack
open Go.RowKit Go.Proofs.YtngcaphdkgihmaaW.PrintWords Go.Proofs.Ytngcaphdkgihmaa.P Go.Proofs.Ytngcaphdkgihmaa.Reads
def Pure : Prop := ∀ (x0 : Int) (x1 : Int) (x2 : List Bool), ((Lit.int .i64 x0).wf = true) → ((Lit.int .i64 x1).wf = true) → (((∀ x_ ∈ x2, True) ∧ x2.length ≤ maxLen)) → ∃ k, steeplelaw18_TurnBack.f k x0 x1 x2 = some true
end Go.Proofs.Ytngcaphdkgihmaa.Stated.turnBack
