/- The pure statement of FnTurned, as its row asks for it. -/
import Derived.Test.YtfakkehopmihoaaPFnTurnedx8
namespace Go.Proofs.Ytfakkehopmihoaa.Stat
open Go.RowKit Go.Proofs.YtfakkehopmihoaaW.PrintWords Go.Proofs.YtfakkehopmihoaaW.PrintLast
def FnTurned : Prop := ∀ (l0 : (List Int)), (l0.length ≤ maxLen ∧ ∀ a ∈ l0, (Lit.int .u8 a).wf = true) → ∃ k, PFnTurned.laws_FnTurned.f k l0 = some true
end Go.Proofs.Ytfakkehopmihoaa.Stat
