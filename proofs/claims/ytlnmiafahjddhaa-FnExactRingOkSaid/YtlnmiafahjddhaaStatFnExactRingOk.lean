/- The pure statement of FnExactRingOk, as its row asks for it. -/
import Derived.Test.YtlnmiafahjddhaaPFnExactRingOkx2
namespace Go.Proofs.Ytlnmiafahjddhaa.Stat
open Go.RowKit Go.Proofs.YtlnmiafahjddhaaW.PrintWords Go.Proofs.YtlnmiafahjddhaaW.PrintLast
def FnExactRingOk : Prop := ∀ (a0_0 : Int) (l0_1 : (List Int)), ((Lit.int .i64 a0_0).wf = true) → (l0_1.length ≤ maxLen ∧ ∀ a ∈ l0_1, (Lit.int .i64 a).wf = true) → ∃ k, PFnExactRingOk.laws_FnExactRingOk.f k a0_0 l0_1 = some true
end Go.Proofs.Ytlnmiafahjddhaa.Stat
