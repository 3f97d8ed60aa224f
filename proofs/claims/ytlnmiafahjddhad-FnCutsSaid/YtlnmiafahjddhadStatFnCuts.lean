/- The pure statement of FnCuts, as its row asks for it. -/
import Derived.Test.YtlnmiafahjddhadPFnCutsx10
namespace Go.Proofs.Ytlnmiafahjddhad.Stat
open Go.RowKit Go.Proofs.YtlnmiafahjddhadW.PrintWords Go.Proofs.YtlnmiafahjddhadW.PrintLast
def FnCuts : Prop := ∀ (l0 : (List Int)), (l0.length ≤ maxLen ∧ ∀ a ∈ l0, (Lit.int .u8 a).wf = true) → ∃ k, PFnCuts.laws_FnCuts.f k l0 = some true
end Go.Proofs.Ytlnmiafahjddhad.Stat
