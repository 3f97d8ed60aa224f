/- The pure statement of FnExactDistances, as its row asks for it. -/
import Derived.Test.YtokoihmjcfhemaaPFnExactDistancesx14
namespace Go.Proofs.Ytokoihmjcfhemaa.Stat
open Go.RowKit Go.Proofs.YtokoihmjcfhemaaW.PrintWords Go.Proofs.YtokoihmjcfhemaaW.PrintLast
def FnExactDistances : Prop := ∀ (a0 : Int) (l1 : (List PFnExactDistances.S53)) (a2 : Int), ((Lit.int .i64 a0).wf = true) → (l1.length ≤ maxLen ∧ ∀ a ∈ l1, ((Lit.int .i64 a.f0).wf = true) ∧ ((Lit.int .i64 a.f1).wf = true) ∧ (Lit.int .i64 a.f2).wf = true) → ((Lit.int .i64 a2).wf = true) → ∃ k, PFnExactDistances.laws_FnExactDistances.f k a0 l1 a2 = some true
end Go.Proofs.Ytokoihmjcfhemaa.Stat
