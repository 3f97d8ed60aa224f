/- The pure statement of FnLinks, as its row asks for it. -/
import Derived.Test.YtlidnobkkgcnlaaPFnLinksx23
namespace Go.Proofs.Ytlidnobkkgcnlaa.Stat
open Go.RowKit Go.Proofs.YtlidnobkkgcnlaaW.PrintWords Go.Proofs.YtlidnobkkgcnlaaW.PrintLast
def FnLinks : Prop := ∀ (l0 : (List Int)), (l0.length ≤ maxLen ∧ ∀ a ∈ l0, (Lit.int .u8 a).wf = true) → ∃ k, PFnLinks.laws_FnLinks.f k l0 = some true
end Go.Proofs.Ytlidnobkkgcnlaa.Stat
