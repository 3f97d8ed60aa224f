/- The pure statement of FnExactReceive, as its row asks for it. -/
import Derived.Test.YtlidnobkkgcnlaaPFnExactReceivex19
namespace Go.Proofs.Ytlidnobkkgcnlaa.Stat
open Go.RowKit Go.Proofs.YtlidnobkkgcnlaaW.PrintWords Go.Proofs.YtlidnobkkgcnlaaW.PrintLast
def FnExactReceive : Prop := ∀ (a0_0 : Int) (a0_1 : Int) (l0_2 : (List ByteArray)) (a0_3 : Int) (l0_4 : (List ByteArray)) (a1_0 : Int) (a1_1 : Int) (a1_2 : ByteArray), ((Lit.int .i64 a0_0).wf = true) → ((Lit.int .i64 a0_1).wf = true) → (l0_2.length ≤ maxLen ∧ ∀ a ∈ l0_2, a.size ≤ maxLen) → ((Lit.int .i64 a0_3).wf = true) → (l0_4.length ≤ maxLen ∧ ∀ a ∈ l0_4, a.size ≤ maxLen) → ((Lit.int .i64 a1_0).wf = true) → ((Lit.int .i64 a1_1).wf = true) → (a1_2.size ≤ maxLen) → ∃ k, PFnExactReceive.laws_FnExactReceive.f k a0_0 a0_1 l0_2 a0_3 l0_4 a1_0 a1_1 a1_2 = some true
end Go.Proofs.Ytlidnobkkgcnlaa.Stat
