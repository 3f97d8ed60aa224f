/- The pure statement of FnExactDecimal, as its row asks for it. -/
import Derived.Test.YtlnmiafahjddhacDoorPFnExactDecimalx2
namespace Go.Proofs.YtlnmiafahjddhacDoor.Stat
open Go.RowKit Go.Proofs.YtlnmiafahjddhacDoorW.PrintWords Go.Proofs.YtlnmiafahjddhacDoorW.PrintLast
def FnExactDecimal : Prop := ∀ (a0 : Int), ((Lit.int .i64 a0).wf = true) → ∃ k, PFnExactDecimal.laws_FnExactDecimal.f k a0 = some true
end Go.Proofs.YtlnmiafahjddhacDoor.Stat
