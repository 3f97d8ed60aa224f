/- The pure statement of FnEnds, as its row asks for it. -/
import Derived.Test.YtlidnobkkgcnlaaPFnEndsx12
namespace Go.Proofs.Ytlidnobkkgcnlaa.Stat
open Go.RowKit Go.Proofs.YtlidnobkkgcnlaaW.PrintWords Go.Proofs.YtlidnobkkgcnlaaW.PrintLast
def FnEnds : Prop := ∀ (l0 : (List Int)), (l0.length ≤ maxLen ∧ ∀ a ∈ l0, (Lit.int .u8 a).wf = true) → ∃ k, PFnEnds.laws_FnEnds.f k l0 = some true
end Go.Proofs.Ytlidnobkkgcnlaa.Stat
