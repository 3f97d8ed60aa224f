/- The pure statement of FnMissing, as its row asks for it. -/
import Derived.Test.YtfkhpenpdeknmaaPFnMissingx16
namespace Go.Proofs.Ytfkhpenpdeknmaa.Stat
open Go.RowKit Go.Proofs.YtfkhpenpdeknmaaW.PrintWords Go.Proofs.YtfkhpenpdeknmaaW.PrintLast
def FnMissing : Prop := ∀ (l0 : (List Int)), (l0.length ≤ maxLen ∧ ∀ a ∈ l0, (Lit.int .u8 a).wf = true) → ∃ k, PFnMissing.laws_FnMissing.f k l0 = some true
end Go.Proofs.Ytfkhpenpdeknmaa.Stat
