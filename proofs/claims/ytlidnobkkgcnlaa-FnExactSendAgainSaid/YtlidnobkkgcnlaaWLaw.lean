/- More words for this claim's walks: a region that draws, with one event. -/
import Derived.Test.YtlidnobkkgcnlaaWMore
import Derived.Deep.RegionLaw
namespace Go.Proofs.YtlidnobkkgcnlaaW.PrintWords
end Go.Proofs.YtlidnobkkgcnlaaW.PrintWords
