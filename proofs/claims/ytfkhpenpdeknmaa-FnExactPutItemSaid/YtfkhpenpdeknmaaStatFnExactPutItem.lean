/- The pure statement of FnExactPutItem, as its row asks for it. -/
import Derived.Test.YtfkhpenpdeknmaaPFnExactPutItemx16
namespace Go.Proofs.Ytfkhpenpdeknmaa.Stat
open Go.RowKit Go.Proofs.YtfkhpenpdeknmaaW.PrintWords Go.Proofs.YtfkhpenpdeknmaaW.PrintLast
def FnExactPutItem : Prop := ∀ (l0 : (List PFnExactPutItem.S24)) (a1_0 : Int) (a1_1 : Int) (a1_2 : Int) (a1_3 : ByteArray), (l0.length ≤ maxLen ∧ ∀ a ∈ l0, ((Lit.int .i64 a.f0).wf = true) ∧ ((Lit.int .i64 a.f1).wf = true) ∧ ((Lit.int .i64 a.f2).wf = true) ∧ a.f3.size ≤ maxLen) → ((Lit.int .i64 a1_0).wf = true) → ((Lit.int .i64 a1_1).wf = true) → ((Lit.int .i64 a1_2).wf = true) → (a1_3.size ≤ maxLen) → ∃ k, PFnExactPutItem.laws_FnExactPutItem.f k l0 a1_0 a1_1 a1_2 a1_3 = some true
end Go.Proofs.Ytfkhpenpdeknmaa.Stat
