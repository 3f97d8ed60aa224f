/- The pure statement of FnExactSpread, as its row asks for it. -/
import Derived.Test.YtokoihmjcfhemaaPFnExactSpreadx27
namespace Go.Proofs.Ytokoihmjcfhemaa.Stat
open Go.RowKit Go.Proofs.YtokoihmjcfhemaaW.PrintWords Go.Proofs.YtokoihmjcfhemaaW.PrintLast
def FnExactSpread : Prop := ∀ (a0 : Int) (l1 : (List PFnExactSpread.S53)) (a2 : Int) (l3 : (List (List Int))), ((Lit.int .i64 a0).wf = true) → (l1.length ≤ maxLen ∧ ∀ a ∈ l1, ((Lit.int .i64 a.f0).wf = true) ∧ ((Lit.int .i64 a.f1).wf = true) ∧ (Lit.int .i64 a.f2).wf = true) → ((Lit.int .i64 a2).wf = true) → (l3.length ≤ maxLen ∧ ∀ a ∈ l3, a.length ≤ maxLen ∧ ∀ a1 ∈ a, (Lit.int .i64 a1).wf = true) → ∃ k, PFnExactSpread.laws_FnExactSpread.f k a0 l1 a2 l3 = some true
end Go.Proofs.Ytokoihmjcfhemaa.Stat
