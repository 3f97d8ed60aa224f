/- The pure statement of FnExactTreeOf, as its row asks for it. -/
import Derived.Test.YtokoihmjcfhemaaPFnExactTreeOfx16
namespace Go.Proofs.Ytokoihmjcfhemaa.Stat
open Go.RowKit Go.Proofs.YtokoihmjcfhemaaW.PrintWords Go.Proofs.YtokoihmjcfhemaaW.PrintLast
def FnExactTreeOf : Prop := ∀ (a0 : Int) (l1 : (List PFnExactTreeOf.S53)) (a2 : Int), ((Lit.int .i64 a0).wf = true) → (l1.length ≤ maxLen ∧ ∀ a ∈ l1, ((Lit.int .i64 a.f0).wf = true) ∧ ((Lit.int .i64 a.f1).wf = true) ∧ (Lit.int .i64 a.f2).wf = true) → ((Lit.int .i64 a2).wf = true) → ∃ k, PFnExactTreeOf.laws_FnExactTreeOf.f k a0 l1 a2 = some true
end Go.Proofs.Ytokoihmjcfhemaa.Stat
