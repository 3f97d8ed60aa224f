/- The pure statement of FnExactChildren, as its row asks for it. -/
import Derived.Test.YtlnmiafahjddhaaPFnExactChildrenx2
namespace Go.Proofs.Ytlnmiafahjddhaa.Stat
open Go.RowKit Go.Proofs.YtlnmiafahjddhaaW.PrintWords Go.Proofs.YtlnmiafahjddhaaW.PrintLast
def FnExactChildren : Prop := ∀ (l0 : (List Int)) (a1 : Int), (l0.length ≤ maxLen ∧ ∀ a ∈ l0, (Lit.int .i64 a).wf = true) → ((Lit.int .i64 a1).wf = true) → ∃ k, PFnExactChildren.laws_FnExactChildren.f k l0 a1 = some true
end Go.Proofs.Ytlnmiafahjddhaa.Stat
