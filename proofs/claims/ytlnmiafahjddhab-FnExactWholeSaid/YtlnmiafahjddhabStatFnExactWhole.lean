/- The pure statement of FnExactWhole, as its row asks for it. -/
import Derived.Test.YtlnmiafahjddhabPFnExactWholex4
namespace Go.Proofs.Ytlnmiafahjddhab.Stat
open Go.RowKit Go.Proofs.YtlnmiafahjddhabW.PrintWords Go.Proofs.YtlnmiafahjddhabW.PrintLast
def FnExactWhole : Prop := ∀ (l0 : (List PFnExactWhole.S105)), (l0.length ≤ maxLen ∧ ∀ a ∈ l0, ((Lit.int .i64 a.f0).wf = true) ∧ ((Lit.int .i64 a.f1).wf = true) ∧ ((Lit.int .i64 a.f2).wf = true) ∧ a.f3.size ≤ maxLen) → ∃ k, PFnExactWhole.laws_FnExactWhole.f k l0 = some true
end Go.Proofs.Ytlnmiafahjddhab.Stat
