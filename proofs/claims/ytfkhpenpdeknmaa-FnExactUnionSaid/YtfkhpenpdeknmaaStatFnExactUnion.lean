/- The pure statement of FnExactUnion, as its row asks for it. -/
import Derived.Test.YtfkhpenpdeknmaaPFnExactUnionx21
namespace Go.Proofs.Ytfkhpenpdeknmaa.Stat
open Go.RowKit Go.Proofs.YtfkhpenpdeknmaaW.PrintWords Go.Proofs.YtfkhpenpdeknmaaW.PrintLast
def FnExactUnion : Prop := ∀ (l0 : (List (List PFnExactUnion.S24))), (l0.length ≤ maxLen ∧ ∀ a ∈ l0, a.length ≤ maxLen ∧ ∀ a1 ∈ a, ((Lit.int .i64 a1.f0).wf = true) ∧ ((Lit.int .i64 a1.f1).wf = true) ∧ ((Lit.int .i64 a1.f2).wf = true) ∧ a1.f3.size ≤ maxLen) → ∃ k, PFnExactUnion.laws_FnExactUnion.f k l0 = some true
end Go.Proofs.Ytfkhpenpdeknmaa.Stat
