/- The pure statement of FnExactSortNames, as its row asks for it. -/
import Derived.Test.YtfakkehopmihoaaPFnExactSortNamesx10
namespace Go.Proofs.Ytfakkehopmihoaa.Stat
open Go.RowKit Go.Proofs.YtfakkehopmihoaaW.PrintWords Go.Proofs.YtfakkehopmihoaaW.PrintLast
def FnExactSortNames : Prop := ∀ (l0 : (List ByteArray)), (l0.length ≤ maxLen ∧ ∀ a ∈ l0, a.size ≤ maxLen) → ∃ k, PFnExactSortNames.laws_FnExactSortNames.f k l0 = some true
end Go.Proofs.Ytfakkehopmihoaa.Stat
