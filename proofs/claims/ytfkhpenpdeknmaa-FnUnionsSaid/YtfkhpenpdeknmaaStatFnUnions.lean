/- The pure statement of FnUnions, as its row asks for it. -/
import Derived.Test.YtfkhpenpdeknmaaPFnUnionsx15
namespace Go.Proofs.Ytfkhpenpdeknmaa.Stat
open Go.RowKit Go.Proofs.YtfkhpenpdeknmaaW.PrintWords Go.Proofs.YtfkhpenpdeknmaaW.PrintLast
def FnUnions : Prop := ∀ (l0 : (List Int)), (l0.length ≤ maxLen ∧ ∀ a ∈ l0, (Lit.int .u8 a).wf = true) → ∃ k, PFnUnions.laws_FnUnions.f k l0 = some true
end Go.Proofs.Ytfkhpenpdeknmaa.Stat
