/- The pure statement of FnExactTalk, as its row asks for it. -/
import Derived.Test.YtlidnobkkgcnlaaPFnExactTalkx26
namespace Go.Proofs.Ytlidnobkkgcnlaa.Stat
open Go.RowKit Go.Proofs.YtlidnobkkgcnlaaW.PrintWords Go.Proofs.YtlidnobkkgcnlaaW.PrintLast
def FnExactTalk : Prop := ∀ (l0 : (List ByteArray)) (l1 : (List Int)), (l0.length ≤ maxLen ∧ ∀ a ∈ l0, a.size ≤ maxLen) → (l1.length ≤ maxLen ∧ ∀ a ∈ l1, (Lit.int .i64 a).wf = true) → ∃ k, PFnExactTalk.laws_FnExactTalk.f k l0 l1 = some true
end Go.Proofs.Ytlidnobkkgcnlaa.Stat
