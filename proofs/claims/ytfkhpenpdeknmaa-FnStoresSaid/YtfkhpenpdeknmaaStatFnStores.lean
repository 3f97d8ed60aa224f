/- The pure statement of FnStores, as its row asks for it. -/
import Derived.Test.YtfkhpenpdeknmaaPFnStoresx22
namespace Go.Proofs.Ytfkhpenpdeknmaa.Stat
open Go.RowKit Go.Proofs.YtfkhpenpdeknmaaW.PrintWords Go.Proofs.YtfkhpenpdeknmaaW.PrintLast
def FnStores : Prop := ∀ (l0 : (List Int)), (l0.length ≤ maxLen ∧ ∀ a ∈ l0, (Lit.int .u8 a).wf = true) → ∃ k, PFnStores.laws_FnStores.f k l0 = some true
end Go.Proofs.Ytfkhpenpdeknmaa.Stat
