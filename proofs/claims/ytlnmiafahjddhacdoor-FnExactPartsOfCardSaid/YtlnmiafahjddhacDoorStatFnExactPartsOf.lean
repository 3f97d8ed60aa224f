/- The pure statement of FnExactPartsOf, as its row asks for it. -/
import Derived.Test.YtlnmiafahjddhacDoorPFnExactPartsOfx8
namespace Go.Proofs.YtlnmiafahjddhacDoor.Stat
open Go.RowKit Go.Proofs.YtlnmiafahjddhacDoorW.PrintWords Go.Proofs.YtlnmiafahjddhacDoorW.PrintLast
def FnExactPartsOf : Prop := ∀ (a0 : ByteArray), (a0.size ≤ maxLen) → ∃ k, PFnExactPartsOf.laws_FnExactPartsOf.f k a0 = some true
end Go.Proofs.YtlnmiafahjddhacDoor.Stat
