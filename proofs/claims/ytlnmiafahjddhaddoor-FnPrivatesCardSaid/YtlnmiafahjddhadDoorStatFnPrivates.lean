/- The pure statement of FnPrivates, as its row asks for it. -/
import Derived.Test.YtlnmiafahjddhadDoorPFnPrivatesx13
namespace Go.Proofs.YtlnmiafahjddhadDoor.Stat
open Go.RowKit Go.Proofs.YtlnmiafahjddhadDoorW.PrintWords Go.Proofs.YtlnmiafahjddhadDoorW.PrintLast
def FnPrivates : Prop := ∀ (l0 : (List Int)), (l0.length ≤ maxLen ∧ ∀ a ∈ l0, (Lit.int .u8 a).wf = true) → ∃ k, PFnPrivates.laws_FnPrivates.f k l0 = some true
end Go.Proofs.YtlnmiafahjddhadDoor.Stat
