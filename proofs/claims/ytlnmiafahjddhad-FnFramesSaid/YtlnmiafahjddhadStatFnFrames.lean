/- The pure statement of FnFrames, as its row asks for it. -/
import Derived.Test.YtlnmiafahjddhadPFnFramesx13
namespace Go.Proofs.Ytlnmiafahjddhad.Stat
open Go.RowKit Go.Proofs.YtlnmiafahjddhadW.PrintWords Go.Proofs.YtlnmiafahjddhadW.PrintLast
def FnFrames : Prop := ∀ (l0 : (List Int)), (l0.length ≤ maxLen ∧ ∀ a ∈ l0, (Lit.int .u8 a).wf = true) → ∃ k, PFnFrames.laws_FnFrames.f k l0 = some true
end Go.Proofs.Ytlnmiafahjddhad.Stat
