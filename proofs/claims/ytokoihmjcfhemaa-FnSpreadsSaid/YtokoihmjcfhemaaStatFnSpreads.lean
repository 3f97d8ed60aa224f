/- The pure statement of FnSpreads, as its row asks for it. -/
import Derived.Test.YtokoihmjcfhemaaPFnSpreadsx19
namespace Go.Proofs.Ytokoihmjcfhemaa.Stat
open Go.RowKit Go.Proofs.YtokoihmjcfhemaaW.PrintWords Go.Proofs.YtokoihmjcfhemaaW.PrintLast
def FnSpreads : Prop := ∀ (l0 : (List Int)), (l0.length ≤ maxLen ∧ ∀ a ∈ l0, (Lit.int .u8 a).wf = true) → ∃ k, PFnSpreads.laws_FnSpreads.f k l0 = some true
end Go.Proofs.Ytokoihmjcfhemaa.Stat
