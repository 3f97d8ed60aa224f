/- The pure statement of FnExactPrivateName, as its row asks for it. -/
import Derived.Test.YtlnmiafahjddhacDoorPFnExactPrivateNamex6
namespace Go.Proofs.YtlnmiafahjddhacDoor.Stat
open Go.RowKit Go.Proofs.YtlnmiafahjddhacDoorW.PrintWords Go.Proofs.YtlnmiafahjddhacDoorW.PrintLast
def FnExactPrivateName : Prop := ∀ (a0 : Int) (a1 : ByteArray), ((Lit.int .i64 a0).wf = true) → (a1.size ≤ maxLen) → ∃ k, PFnExactPrivateName.laws_FnExactPrivateName.f k a0 a1 = some true
end Go.Proofs.YtlnmiafahjddhacDoor.Stat
