/- The pure statement of FnExactSplitPrivate, as its row asks for it. -/
import Derived.Test.YtlnmiafahjddhadDoorPFnExactSplitPrivatex10
namespace Go.Proofs.YtlnmiafahjddhadDoor.Stat
open Go.RowKit Go.Proofs.YtlnmiafahjddhadDoorW.PrintWords Go.Proofs.YtlnmiafahjddhadDoorW.PrintLast
def FnExactSplitPrivate : Prop := ∀ (a0 : ByteArray), (a0.size ≤ maxLen) → ∃ k, PFnExactSplitPrivate.laws_FnExactSplitPrivate.f k a0 = some true
end Go.Proofs.YtlnmiafahjddhadDoor.Stat
