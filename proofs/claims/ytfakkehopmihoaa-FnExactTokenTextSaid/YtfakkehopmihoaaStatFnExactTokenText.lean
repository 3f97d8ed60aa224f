/- The pure statement of FnExactTokenText, as its row asks for it. -/
import Derived.Test.YtfakkehopmihoaaPFnExactTokenTextx16
namespace Go.Proofs.Ytfakkehopmihoaa.Stat
open Go.RowKit Go.Proofs.YtfakkehopmihoaaW.PrintWords Go.Proofs.YtfakkehopmihoaaW.PrintLast
def FnExactTokenText : Prop := ∀ (a0_0 : Int) (a0_1 : Int) (a0_2 : Int) (a0_3 : Int) (a0_4 : Int) (l0_5 : (List Int)), ((Lit.int .i64 a0_0).wf = true) → ((Lit.int .i64 a0_1).wf = true) → ((Lit.int .i64 a0_2).wf = true) → ((Lit.int .i64 a0_3).wf = true) → ((Lit.int .i64 a0_4).wf = true) → (l0_5.length ≤ maxLen ∧ ∀ a ∈ l0_5, (Lit.int .i64 a).wf = true) → ∃ k, PFnExactTokenText.laws_FnExactTokenText.f k a0_0 a0_1 a0_2 a0_3 a0_4 l0_5 = some true
end Go.Proofs.Ytfakkehopmihoaa.Stat
