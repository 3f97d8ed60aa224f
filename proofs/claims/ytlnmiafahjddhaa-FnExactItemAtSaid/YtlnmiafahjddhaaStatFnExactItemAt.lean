/- The pure statement of FnExactItemAt, as its row asks for it. -/
import Derived.Test.YtlnmiafahjddhaaPFnExactItemAtx2
namespace Go.Proofs.Ytlnmiafahjddhaa.Stat
open Go.RowKit Go.Proofs.YtlnmiafahjddhaaW.PrintWords Go.Proofs.YtlnmiafahjddhaaW.PrintLast
def FnExactItemAt : Prop := ∀ (l0 : (List PFnExactItemAt.S35)) (a1 : Int), (l0.length ≤ maxLen ∧ ∀ a ∈ l0, ((Lit.int .i64 a.f0).wf = true) ∧ ((Lit.int .i64 a.f1).wf = true) ∧ ((Lit.int .i64 a.f2).wf = true) ∧ a.f3.size ≤ maxLen) → ((Lit.int .i64 a1).wf = true) → ∃ k, PFnExactItemAt.laws_FnExactItemAt.f k l0 a1 = some true
end Go.Proofs.Ytlnmiafahjddhaa.Stat
