/- The pure statement of FnExactFeedReader, as its row asks for it. -/
import Derived.Test.YtlnmiafahjddhabPFnExactFeedReaderx11
namespace Go.Proofs.Ytlnmiafahjddhab.Stat
open Go.RowKit Go.Proofs.YtlnmiafahjddhabW.PrintWords Go.Proofs.YtlnmiafahjddhabW.PrintLast
def FnExactFeedReader : Prop := ∀ (a0_0 : ByteArray) (a0_1 : Bool) (a1 : ByteArray), (a0_0.size ≤ maxLen) → (a1.size ≤ maxLen) → ∃ k, PFnExactFeedReader.laws_FnExactFeedReader.f k a0_0 a0_1 a1 = some true
end Go.Proofs.Ytlnmiafahjddhab.Stat
