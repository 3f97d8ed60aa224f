/- The pure statement of FnExactMissing, as its row asks for it. -/
import Derived.Test.YtlnmiafahjddhabPFnExactMissingx4
namespace Go.Proofs.Ytlnmiafahjddhab.Stat
open Go.RowKit Go.Proofs.YtlnmiafahjddhabW.PrintWords Go.Proofs.YtlnmiafahjddhabW.PrintLast
def FnExactMissing : Prop := ∀ (l0 : (List PFnExactMissing.S105)) (a1 : Int), (l0.length ≤ maxLen ∧ ∀ a ∈ l0, ((Lit.int .i64 a.f0).wf = true) ∧ ((Lit.int .i64 a.f1).wf = true) ∧ ((Lit.int .i64 a.f2).wf = true) ∧ a.f3.size ≤ maxLen) → ((Lit.int .i64 a1).wf = true) → ∃ k, PFnExactMissing.laws_FnExactMissing.f k l0 a1 = some true
end Go.Proofs.Ytlnmiafahjddhab.Stat
