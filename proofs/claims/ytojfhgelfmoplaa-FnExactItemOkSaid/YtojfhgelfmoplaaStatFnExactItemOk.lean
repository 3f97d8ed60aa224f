/- The pure statement of FnExactItemOk, as its row asks for it. -/
import Derived.Test.YtojfhgelfmoplaaPFnExactItemOkx1
namespace Go.Proofs.Ytojfhgelfmoplaa.Stat
open Go.RowKit Go.Proofs.YtojfhgelfmoplaaW.PrintWords Go.Proofs.YtojfhgelfmoplaaW.PrintLast
def FnExactItemOk : Prop := ∀ (a0_0 : Int) (a0_1 : Int) (a0_2 : Int) (a0_3 : ByteArray), ((Lit.int .i64 a0_0).wf = true) → ((Lit.int .i64 a0_1).wf = true) → ((Lit.int .i64 a0_2).wf = true) → (a0_3.size ≤ maxLen) → PFnExactItemOk.laws_FnExactItemOk.f a0_0 a0_1 a0_2 a0_3 = some true
end Go.Proofs.Ytojfhgelfmoplaa.Stat
