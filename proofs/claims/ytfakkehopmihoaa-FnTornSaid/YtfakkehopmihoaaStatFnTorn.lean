/- The pure statement of FnTorn, as its row asks for it. -/
import Derived.Test.YtfakkehopmihoaaPFnTornx13
namespace Go.Proofs.Ytfakkehopmihoaa.Stat
open Go.RowKit Go.Proofs.YtfakkehopmihoaaW.PrintWords Go.Proofs.YtfakkehopmihoaaW.PrintLast
def FnTorn : Prop := ∀ (l0 : (List Int)), (l0.length ≤ maxLen ∧ ∀ a ∈ l0, (Lit.int .u8 a).wf = true) → ∃ k, PFnTorn.laws_FnTorn.f k l0 = some true
end Go.Proofs.Ytfakkehopmihoaa.Stat
