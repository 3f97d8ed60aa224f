/- The pure statement of FnSites, as its row asks for it. -/
import Derived.Test.YtokoihmjcfhemaaPFnSitesx15
namespace Go.Proofs.Ytokoihmjcfhemaa.Stat
open Go.RowKit Go.Proofs.YtokoihmjcfhemaaW.PrintWords Go.Proofs.YtokoihmjcfhemaaW.PrintLast
def FnSites : Prop := ∀ (l0 : (List Int)), (l0.length ≤ maxLen ∧ ∀ a ∈ l0, (Lit.int .u8 a).wf = true) → ∃ k, PFnSites.laws_FnSites.f k l0 = some true
end Go.Proofs.Ytokoihmjcfhemaa.Stat
