/- The pure statement of FnExactRoadsOk, as its row asks for it. -/
import Derived.Test.YtlnmiafahjddhaaPFnExactRoadsOkx7
namespace Go.Proofs.Ytlnmiafahjddhaa.Stat
open Go.RowKit Go.Proofs.YtlnmiafahjddhaaW.PrintWords Go.Proofs.YtlnmiafahjddhaaW.PrintLast
def FnExactRoadsOk : Prop := ∀ (a0 : Int) (l1 : (List PFnExactRoadsOk.S96)), ((Lit.int .i64 a0).wf = true) → (l1.length ≤ maxLen ∧ ∀ a ∈ l1, ((Lit.int .i64 a.f0).wf = true) ∧ ((Lit.int .i64 a.f1).wf = true) ∧ (Lit.int .i64 a.f2).wf = true) → ∃ k, PFnExactRoadsOk.laws_FnExactRoadsOk.f k a0 l1 = some true
end Go.Proofs.Ytlnmiafahjddhaa.Stat
