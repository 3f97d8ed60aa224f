/- The pure statement of FnExactReadDecimal, as its row asks for it. -/
import Derived.Test.YtlnmiafahjddhacDoorPFnExactReadDecimalx5
namespace Go.Proofs.YtlnmiafahjddhacDoor.Stat
open Go.RowKit Go.Proofs.YtlnmiafahjddhacDoorW.PrintWords Go.Proofs.YtlnmiafahjddhacDoorW.PrintLast
def FnExactReadDecimal : Prop := ∀ (a0 : ByteArray), (a0.size ≤ maxLen) → ∃ k, PFnExactReadDecimal.laws_FnExactReadDecimal.f k a0 = some true
end Go.Proofs.YtlnmiafahjddhacDoor.Stat
