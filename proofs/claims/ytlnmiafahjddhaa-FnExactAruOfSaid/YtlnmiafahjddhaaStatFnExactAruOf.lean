/- The pure statement of FnExactAruOf, as its row asks for it. -/
import Derived.Test.YtlnmiafahjddhaaPFnExactAruOfx2
namespace Go.Proofs.Ytlnmiafahjddhaa.Stat
open Go.RowKit Go.Proofs.YtlnmiafahjddhaaW.PrintWords Go.Proofs.YtlnmiafahjddhaaW.PrintLast
def FnExactAruOf : Prop := ∀ (l0 : (List PFnExactAruOf.S35)), (l0.length ≤ maxLen ∧ ∀ a ∈ l0, ((Lit.int .i64 a.f0).wf = true) ∧ ((Lit.int .i64 a.f1).wf = true) ∧ ((Lit.int .i64 a.f2).wf = true) ∧ a.f3.size ≤ maxLen) → ∃ k, PFnExactAruOf.laws_FnExactAruOf.f k l0 = some true
end Go.Proofs.Ytlnmiafahjddhaa.Stat
