/- The pure statement of FnReceives, as its row asks for it. -/
import Derived.Test.YtlidnobkkgcnlaaPFnReceivesx15
namespace Go.Proofs.Ytlidnobkkgcnlaa.Stat
open Go.RowKit Go.Proofs.YtlidnobkkgcnlaaW.PrintWords Go.Proofs.YtlidnobkkgcnlaaW.PrintLast
def FnReceives : Prop := ∀ (l0 : (List Int)), (l0.length ≤ maxLen ∧ ∀ a ∈ l0, (Lit.int .u8 a).wf = true) → ∃ k, PFnReceives.laws_FnReceives.f k l0 = some true
end Go.Proofs.Ytlidnobkkgcnlaa.Stat
