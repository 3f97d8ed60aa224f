/- The pure statement of FnExactCutAt, as its row asks for it. -/
import Derived.Test.YtlnmiafahjddhadPFnExactCutAtx11
namespace Go.Proofs.Ytlnmiafahjddhad.Stat
open Go.RowKit Go.Proofs.YtlnmiafahjddhadW.PrintWords Go.Proofs.YtlnmiafahjddhadW.PrintLast
def FnExactCutAt : Prop := ∀ (a0 : ByteArray) (l1 : (List Int)), (a0.size ≤ maxLen) → (l1.length ≤ maxLen ∧ ∀ a ∈ l1, (Lit.int .i64 a).wf = true) → ∃ k, PFnExactCutAt.laws_FnExactCutAt.f k a0 l1 = some true
end Go.Proofs.Ytlnmiafahjddhad.Stat
