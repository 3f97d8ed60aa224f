/- The pure statement of FnExactItemText, as its row asks for it. -/
import Derived.Test.YtlnmiafahjddhaaPFnExactItemTextx8
namespace Go.Proofs.Ytlnmiafahjddhaa.Stat
open Go.RowKit Go.Proofs.YtlnmiafahjddhaaW.PrintWords Go.Proofs.YtlnmiafahjddhaaW.PrintLast
def FnExactItemText : Prop := ∀ (a0_0 : Int) (a0_1 : Int) (a0_2 : Int) (a0_3 : ByteArray), ((Lit.int .i64 a0_0).wf = true) → ((Lit.int .i64 a0_1).wf = true) → ((Lit.int .i64 a0_2).wf = true) → (a0_3.size ≤ maxLen) → ∃ k, PFnExactItemText.laws_FnExactItemText.f k a0_0 a0_1 a0_2 a0_3 = some true
end Go.Proofs.Ytlnmiafahjddhaa.Stat
