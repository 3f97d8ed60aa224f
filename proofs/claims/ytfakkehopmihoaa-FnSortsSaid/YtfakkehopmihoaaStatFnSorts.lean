/- The pure statement of FnSorts, as its row asks for it. -/
import Derived.Test.YtfakkehopmihoaaPFnSortsx9
namespace Go.Proofs.Ytfakkehopmihoaa.Stat
open Go.RowKit Go.Proofs.YtfakkehopmihoaaW.PrintWords Go.Proofs.YtfakkehopmihoaaW.PrintLast
def FnSorts : Prop := ∀ (l0 : (List Int)), (l0.length ≤ maxLen ∧ ∀ a ∈ l0, (Lit.int .u8 a).wf = true) → ∃ k, PFnSorts.laws_FnSorts.f k l0 = some true
end Go.Proofs.Ytfakkehopmihoaa.Stat
