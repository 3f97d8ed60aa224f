/- The pure statement of FnNumbers, as its row asks for it. -/
import Derived.Test.YtlnmiafahjddhadDoorPFnNumbersx15
namespace Go.Proofs.YtlnmiafahjddhadDoor.Stat
open Go.RowKit Go.Proofs.YtlnmiafahjddhadDoorW.PrintWords Go.Proofs.YtlnmiafahjddhadDoorW.PrintLast
def FnNumbers : Prop := ∀ (l0 : (List Int)), (l0.length ≤ maxLen ∧ ∀ a ∈ l0, (Lit.int .u8 a).wf = true) → ∃ k, PFnNumbers.laws_FnNumbers.f k l0 = some true
end Go.Proofs.YtlnmiafahjddhadDoor.Stat
