/-
  No cell of these rows narrows 'for every input' (looked for: loops, veiled, ifaces, maps, wideKeys, modest, calm, conditions, laid).
  DERIVED. THE GIVEN ROWS OF THIS SEAT. 12 by the template 'for every input the law returns true; each argument reads behind the call as it read before'; 0 by the template 'total and deterministic' (their statements: YtlnmiafahjddhabTotals.lean).
  GIVEN WITH THE SEED: the statements are not yours to turn. If you find one false, say at which input.
  Laid BY PROGRAM, IN A SANDBOX (cutbox-rows.mjs): the forced cells as the released guide's own fill.sh prints them over the translation 52e9cbc532c35409… (all of the seat's roots in one cut). By AI agents, Wed Nov 11 2026. No macro, syntax, notation, axiom, sorry.
-/
import Derived.Test.YtlnmiafahjddhabChecked
import GoSem.Claim
import GoSem.ClaimJoined
import GoSem.ClaimMapViews
import Derived.JoinedTies
import Derived.KernelRfl
namespace Go.Proofs.Ytlnmiafahjddhab
/- THE CELL 'sum', in the pinned program and in every row, IS THE sha256 OF THE DUMP (.gsa) THAT YtlnmiafahjddhabProg.lean LOADS. Nothing in Lean hashes anything: it is a label: what it is worth is what the hold of that sum in a sandbox is worth. -/
noncomputable def Try.pinned : Pinned := { name := "ytlnmiafahjddhab", sum := "52e9cbc532c35409b8496832987964a10dfbd5ba4202b7f5ee32656b5c1986fe", checked := Try.checked }
namespace Rows
def none {H : Type} : Left H := { results := [], args := [] }

/-- 'laws.FnExactEndOk': WHATEVER THE INPUT: true; the input reads as it did. -/
def fnExactEndOkSpec : ChangeSpec := { name := "fnExactEndOk", fn := fun _ => fun
  | [d] => { results := [.lit (.bool true)], args := [d] }
  | _ => none }
def fnExactEndOkRow : OpenClaim := { program := "ytlnmiafahjddhab", sum := "52e9cbc532c35409b8496832987964a10dfbd5ba4202b7f5ee32656b5c1986fe", func := "loop.example/g00183/laws.FnExactEndOk", spec := "fnExactEndOk", apart := false }
def FnExactEndOkSaid : Prop := fnExactEndOkRow.holds Try.pinned (OpenSpec.ofChange fnExactEndOkSpec)

/-- ITS FALSE NEIGHBOUR: 'it returns false'. Refute it at one input. -/
def fnExactEndOkWrong : ChangeSpec := { name := "fnExactEndOk", fn := fun _ => fun
  | [d] => { results := [.lit (.bool false)], args := [d] }
  | _ => none }
def FnExactEndOkWrongFalsely : Prop := fnExactEndOkRow.holds Try.pinned (OpenSpec.ofChange fnExactEndOkWrong)

/-- 'laws.FnEnds': WHATEVER THE INPUT: true; the input reads as it did. -/
def fnEndsSpec : ChangeSpec := { name := "fnEnds", fn := fun _ => fun
  | [d] => { results := [.lit (.bool true)], args := [d] }
  | _ => none }
def fnEndsRow : OpenClaim := { program := "ytlnmiafahjddhab", sum := "52e9cbc532c35409b8496832987964a10dfbd5ba4202b7f5ee32656b5c1986fe", func := "loop.example/g00183/laws.FnEnds", spec := "fnEnds", apart := false }
def FnEndsSaid : Prop := fnEndsRow.holds Try.pinned (OpenSpec.ofChange fnEndsSpec)

/-- ITS FALSE NEIGHBOUR: 'it returns false'. Refute it at one input. -/
def fnEndsWrong : ChangeSpec := { name := "fnEnds", fn := fun _ => fun
  | [d] => { results := [.lit (.bool false)], args := [d] }
  | _ => none }
def FnEndsWrongFalsely : Prop := fnEndsRow.holds Try.pinned (OpenSpec.ofChange fnEndsWrong)

/-- 'laws.FnExactFeedReader': WHATEVER THE INPUT: true; the input reads as it did. -/
def fnExactFeedReaderSpec : ChangeSpec := { name := "fnExactFeedReader", fn := fun _ => fun
  | [d1, d2] => { results := [.lit (.bool true)], args := [d1, d2] }
  | _ => none }
def fnExactFeedReaderRow : OpenClaim := { program := "ytlnmiafahjddhab", sum := "52e9cbc532c35409b8496832987964a10dfbd5ba4202b7f5ee32656b5c1986fe", func := "loop.example/g00183/laws.FnExactFeedReader", spec := "fnExactFeedReader", apart := false }
def FnExactFeedReaderSaid : Prop := fnExactFeedReaderRow.holds Try.pinned (OpenSpec.ofChange fnExactFeedReaderSpec)

/-- ITS FALSE NEIGHBOUR: 'it returns false'. Refute it at one input. -/
def fnExactFeedReaderWrong : ChangeSpec := { name := "fnExactFeedReader", fn := fun _ => fun
  | [d1, d2] => { results := [.lit (.bool false)], args := [d1, d2] }
  | _ => none }
def FnExactFeedReaderWrongFalsely : Prop := fnExactFeedReaderRow.holds Try.pinned (OpenSpec.ofChange fnExactFeedReaderWrong)

/-- 'laws.FnExactWhole': WHATEVER THE INPUT: true; the input reads as it did. -/
def fnExactWholeSpec : ChangeSpec := { name := "fnExactWhole", fn := fun _ => fun
  | [d] => { results := [.lit (.bool true)], args := [d] }
  | _ => none }
def fnExactWholeRow : OpenClaim := { program := "ytlnmiafahjddhab", sum := "52e9cbc532c35409b8496832987964a10dfbd5ba4202b7f5ee32656b5c1986fe", func := "loop.example/g00183/laws.FnExactWhole", spec := "fnExactWhole", apart := false }
def FnExactWholeSaid : Prop := fnExactWholeRow.holds Try.pinned (OpenSpec.ofChange fnExactWholeSpec)

/-- ITS FALSE NEIGHBOUR: 'it returns false'. Refute it at one input. -/
def fnExactWholeWrong : ChangeSpec := { name := "fnExactWhole", fn := fun _ => fun
  | [d] => { results := [.lit (.bool false)], args := [d] }
  | _ => none }
def FnExactWholeWrongFalsely : Prop := fnExactWholeRow.holds Try.pinned (OpenSpec.ofChange fnExactWholeWrong)

/-- 'laws.FnTorn': WHATEVER THE INPUT: true; the input reads as it did. -/
def fnTornSpec : ChangeSpec := { name := "fnTorn", fn := fun _ => fun
  | [d] => { results := [.lit (.bool true)], args := [d] }
  | _ => none }
def fnTornRow : OpenClaim := { program := "ytlnmiafahjddhab", sum := "52e9cbc532c35409b8496832987964a10dfbd5ba4202b7f5ee32656b5c1986fe", func := "loop.example/g00183/laws.FnTorn", spec := "fnTorn", apart := false }
def FnTornSaid : Prop := fnTornRow.holds Try.pinned (OpenSpec.ofChange fnTornSpec)

/-- ITS FALSE NEIGHBOUR: 'it returns false'. Refute it at one input. -/
def fnTornWrong : ChangeSpec := { name := "fnTorn", fn := fun _ => fun
  | [d] => { results := [.lit (.bool false)], args := [d] }
  | _ => none }
def FnTornWrongFalsely : Prop := fnTornRow.holds Try.pinned (OpenSpec.ofChange fnTornWrong)

/-- 'laws.FnExactDistances': WHATEVER THE INPUT: true; the input reads as it did. -/
def fnExactDistancesSpec : ChangeSpec := { name := "fnExactDistances", fn := fun _ => fun
  | [d1, d2, d3] => { results := [.lit (.bool true)], args := [d1, d2, d3] }
  | _ => none }
def fnExactDistancesRow : OpenClaim := { program := "ytlnmiafahjddhab", sum := "52e9cbc532c35409b8496832987964a10dfbd5ba4202b7f5ee32656b5c1986fe", func := "loop.example/g00183/laws.FnExactDistances", spec := "fnExactDistances", apart := false }
def FnExactDistancesSaid : Prop := fnExactDistancesRow.holds Try.pinned (OpenSpec.ofChange fnExactDistancesSpec)

/-- ITS FALSE NEIGHBOUR: 'it returns false'. Refute it at one input. -/
def fnExactDistancesWrong : ChangeSpec := { name := "fnExactDistances", fn := fun _ => fun
  | [d1, d2, d3] => { results := [.lit (.bool false)], args := [d1, d2, d3] }
  | _ => none }
def FnExactDistancesWrongFalsely : Prop := fnExactDistancesRow.holds Try.pinned (OpenSpec.ofChange fnExactDistancesWrong)

/-- 'laws.FnExactMissing': WHATEVER THE INPUT: true; the input reads as it did. -/
def fnExactMissingSpec : ChangeSpec := { name := "fnExactMissing", fn := fun _ => fun
  | [d1, d2] => { results := [.lit (.bool true)], args := [d1, d2] }
  | _ => none }
def fnExactMissingRow : OpenClaim := { program := "ytlnmiafahjddhab", sum := "52e9cbc532c35409b8496832987964a10dfbd5ba4202b7f5ee32656b5c1986fe", func := "loop.example/g00183/laws.FnExactMissing", spec := "fnExactMissing", apart := false }
def FnExactMissingSaid : Prop := fnExactMissingRow.holds Try.pinned (OpenSpec.ofChange fnExactMissingSpec)

/-- ITS FALSE NEIGHBOUR: 'it returns false'. Refute it at one input. -/
def fnExactMissingWrong : ChangeSpec := { name := "fnExactMissing", fn := fun _ => fun
  | [d1, d2] => { results := [.lit (.bool false)], args := [d1, d2] }
  | _ => none }
def FnExactMissingWrongFalsely : Prop := fnExactMissingRow.holds Try.pinned (OpenSpec.ofChange fnExactMissingWrong)

/-- 'laws.FnExactOffer': WHATEVER THE INPUT: true; the input reads as it did. -/
def fnExactOfferSpec : ChangeSpec := { name := "fnExactOffer", fn := fun _ => fun
  | [d1, d2] => { results := [.lit (.bool true)], args := [d1, d2] }
  | _ => none }
def fnExactOfferRow : OpenClaim := { program := "ytlnmiafahjddhab", sum := "52e9cbc532c35409b8496832987964a10dfbd5ba4202b7f5ee32656b5c1986fe", func := "loop.example/g00183/laws.FnExactOffer", spec := "fnExactOffer", apart := false }
def FnExactOfferSaid : Prop := fnExactOfferRow.holds Try.pinned (OpenSpec.ofChange fnExactOfferSpec)

/-- ITS FALSE NEIGHBOUR: 'it returns false'. Refute it at one input. -/
def fnExactOfferWrong : ChangeSpec := { name := "fnExactOffer", fn := fun _ => fun
  | [d1, d2] => { results := [.lit (.bool false)], args := [d1, d2] }
  | _ => none }
def FnExactOfferWrongFalsely : Prop := fnExactOfferRow.holds Try.pinned (OpenSpec.ofChange fnExactOfferWrong)

/-- 'laws.FnReceives': WHATEVER THE INPUT: true; the input reads as it did. -/
def fnReceivesSpec : ChangeSpec := { name := "fnReceives", fn := fun _ => fun
  | [d] => { results := [.lit (.bool true)], args := [d] }
  | _ => none }
def fnReceivesRow : OpenClaim := { program := "ytlnmiafahjddhab", sum := "52e9cbc532c35409b8496832987964a10dfbd5ba4202b7f5ee32656b5c1986fe", func := "loop.example/g00183/laws.FnReceives", spec := "fnReceives", apart := false }
def FnReceivesSaid : Prop := fnReceivesRow.holds Try.pinned (OpenSpec.ofChange fnReceivesSpec)

/-- ITS FALSE NEIGHBOUR: 'it returns false'. Refute it at one input. -/
def fnReceivesWrong : ChangeSpec := { name := "fnReceives", fn := fun _ => fun
  | [d] => { results := [.lit (.bool false)], args := [d] }
  | _ => none }
def FnReceivesWrongFalsely : Prop := fnReceivesRow.holds Try.pinned (OpenSpec.ofChange fnReceivesWrong)

/-- 'laws.FnSites': WHATEVER THE INPUT: true; the input reads as it did. -/
def fnSitesSpec : ChangeSpec := { name := "fnSites", fn := fun _ => fun
  | [d] => { results := [.lit (.bool true)], args := [d] }
  | _ => none }
def fnSitesRow : OpenClaim := { program := "ytlnmiafahjddhab", sum := "52e9cbc532c35409b8496832987964a10dfbd5ba4202b7f5ee32656b5c1986fe", func := "loop.example/g00183/laws.FnSites", spec := "fnSites", apart := false }
def FnSitesSaid : Prop := fnSitesRow.holds Try.pinned (OpenSpec.ofChange fnSitesSpec)

/-- ITS FALSE NEIGHBOUR: 'it returns false'. Refute it at one input. -/
def fnSitesWrong : ChangeSpec := { name := "fnSites", fn := fun _ => fun
  | [d] => { results := [.lit (.bool false)], args := [d] }
  | _ => none }
def FnSitesWrongFalsely : Prop := fnSitesRow.holds Try.pinned (OpenSpec.ofChange fnSitesWrong)

/-- 'laws.FnExactTreeOf': WHATEVER THE INPUT: true; the input reads as it did. -/
def fnExactTreeOfSpec : ChangeSpec := { name := "fnExactTreeOf", fn := fun _ => fun
  | [d1, d2, d3] => { results := [.lit (.bool true)], args := [d1, d2, d3] }
  | _ => none }
def fnExactTreeOfRow : OpenClaim := { program := "ytlnmiafahjddhab", sum := "52e9cbc532c35409b8496832987964a10dfbd5ba4202b7f5ee32656b5c1986fe", func := "loop.example/g00183/laws.FnExactTreeOf", spec := "fnExactTreeOf", apart := false }
def FnExactTreeOfSaid : Prop := fnExactTreeOfRow.holds Try.pinned (OpenSpec.ofChange fnExactTreeOfSpec)

/-- ITS FALSE NEIGHBOUR: 'it returns false'. Refute it at one input. -/
def fnExactTreeOfWrong : ChangeSpec := { name := "fnExactTreeOf", fn := fun _ => fun
  | [d1, d2, d3] => { results := [.lit (.bool false)], args := [d1, d2, d3] }
  | _ => none }
def FnExactTreeOfWrongFalsely : Prop := fnExactTreeOfRow.holds Try.pinned (OpenSpec.ofChange fnExactTreeOfWrong)

/-- 'laws.FnExactSendAgain': WHATEVER THE INPUT: true; the input reads as it did. -/
def fnExactSendAgainSpec : ChangeSpec := { name := "fnExactSendAgain", fn := fun _ => fun
  | [d] => { results := [.lit (.bool true)], args := [d] }
  | _ => none }
def fnExactSendAgainRow : OpenClaim := { program := "ytlnmiafahjddhab", sum := "52e9cbc532c35409b8496832987964a10dfbd5ba4202b7f5ee32656b5c1986fe", func := "loop.example/g00183/laws.FnExactSendAgain", spec := "fnExactSendAgain", apart := false }
def FnExactSendAgainSaid : Prop := fnExactSendAgainRow.holds Try.pinned (OpenSpec.ofChange fnExactSendAgainSpec)

/-- ITS FALSE NEIGHBOUR: 'it returns false'. Refute it at one input. -/
def fnExactSendAgainWrong : ChangeSpec := { name := "fnExactSendAgain", fn := fun _ => fun
  | [d] => { results := [.lit (.bool false)], args := [d] }
  | _ => none }
def FnExactSendAgainWrongFalsely : Prop := fnExactSendAgainRow.holds Try.pinned (OpenSpec.ofChange fnExactSendAgainWrong)

/- THE SECOND FORM. 'bulk': how many values and letters a reading holds, each counted each time it is reached (what is shared counts as often as it is met; a slice's spare places count too). A statement '..UptoSaid' is the law's where the arguments, and the package variables that the reading takes, are together of bulk at most 1048576: NARROWER than '..Said'. Prove '..Said' where nothing that the law and all that it calls make is longer than what came in: it says more and counts as full. Else prove '..UptoSaid'. A law counts once. -/
mutual
def uptoBulk {H : Type} : DataW H → Nat
  | .lit (.string bytes) => bytes.length + 1
  | .lit _ => 1
  | .nil => 1
  | .ptr d => uptoBulk d + 1
  | .slice elems spare => uptoBulkAll elems + uptoBulkAll spare + 1
  | .agg parts => uptoBulkAll parts + 1
  | .iface _ d => uptoBulk d + 1
  | .map entries => uptoBulkEntries entries + 1
  | .held _ => 1
def uptoBulkAll {H : Type} : List (DataW H) → Nat
  | [] => 0
  | d :: r => uptoBulk d + uptoBulkAll r
def uptoBulkEntries {H : Type} : List (Lit × DataW H) → Nat
  | [] => 0
  | x :: r => uptoBulkEntry x + uptoBulkEntries r
def uptoBulkEntry {H : Type} : Lit × DataW H → Nat
  | (.string bytes, d) => bytes.length + uptoBulk d + 1
  | (_, d) => uptoBulk d + 1
 end
def uptoSmall : (H : Type) → List (DataW H) → Bool := fun _ ds => decide (uptoBulkAll ds ≤ 1048576)
def OpenSpec.upto (s : _root_.Go.ChangeSpec) : _root_.Go.OpenSpec := { _root_.Go.OpenSpec.ofChange s with cond := some uptoSmall }

/-- 'laws.FnExactEndOk', WHERE WHAT IT READS IS OF BULK AT MOST 1048576: true; the input reads as it did. -/
def fnExactEndOkUptoRow : OpenClaim := { program := "ytlnmiafahjddhab", sum := "52e9cbc532c35409b8496832987964a10dfbd5ba4202b7f5ee32656b5c1986fe", func := "loop.example/g00183/laws.FnExactEndOk", spec := "fnExactEndOk", apart := false, narrowed := true }
def FnExactEndOkUptoSaid : Prop := fnExactEndOkUptoRow.holds Try.pinned (OpenSpec.upto fnExactEndOkSpec)

/-- 'laws.FnEnds', WHERE WHAT IT READS IS OF BULK AT MOST 1048576: true; the input reads as it did. -/
def fnEndsUptoRow : OpenClaim := { program := "ytlnmiafahjddhab", sum := "52e9cbc532c35409b8496832987964a10dfbd5ba4202b7f5ee32656b5c1986fe", func := "loop.example/g00183/laws.FnEnds", spec := "fnEnds", apart := false, narrowed := true }
def FnEndsUptoSaid : Prop := fnEndsUptoRow.holds Try.pinned (OpenSpec.upto fnEndsSpec)

/-- 'laws.FnExactFeedReader', WHERE WHAT IT READS IS OF BULK AT MOST 1048576: true; the input reads as it did. -/
def fnExactFeedReaderUptoRow : OpenClaim := { program := "ytlnmiafahjddhab", sum := "52e9cbc532c35409b8496832987964a10dfbd5ba4202b7f5ee32656b5c1986fe", func := "loop.example/g00183/laws.FnExactFeedReader", spec := "fnExactFeedReader", apart := false, narrowed := true }
def FnExactFeedReaderUptoSaid : Prop := fnExactFeedReaderUptoRow.holds Try.pinned (OpenSpec.upto fnExactFeedReaderSpec)

/-- 'laws.FnExactWhole', WHERE WHAT IT READS IS OF BULK AT MOST 1048576: true; the input reads as it did. -/
def fnExactWholeUptoRow : OpenClaim := { program := "ytlnmiafahjddhab", sum := "52e9cbc532c35409b8496832987964a10dfbd5ba4202b7f5ee32656b5c1986fe", func := "loop.example/g00183/laws.FnExactWhole", spec := "fnExactWhole", apart := false, narrowed := true }
def FnExactWholeUptoSaid : Prop := fnExactWholeUptoRow.holds Try.pinned (OpenSpec.upto fnExactWholeSpec)

/-- 'laws.FnTorn', WHERE WHAT IT READS IS OF BULK AT MOST 1048576: true; the input reads as it did. -/
def fnTornUptoRow : OpenClaim := { program := "ytlnmiafahjddhab", sum := "52e9cbc532c35409b8496832987964a10dfbd5ba4202b7f5ee32656b5c1986fe", func := "loop.example/g00183/laws.FnTorn", spec := "fnTorn", apart := false, narrowed := true }
def FnTornUptoSaid : Prop := fnTornUptoRow.holds Try.pinned (OpenSpec.upto fnTornSpec)

/-- 'laws.FnExactDistances', WHERE WHAT IT READS IS OF BULK AT MOST 1048576: true; the input reads as it did. -/
def fnExactDistancesUptoRow : OpenClaim := { program := "ytlnmiafahjddhab", sum := "52e9cbc532c35409b8496832987964a10dfbd5ba4202b7f5ee32656b5c1986fe", func := "loop.example/g00183/laws.FnExactDistances", spec := "fnExactDistances", apart := false, narrowed := true }
def FnExactDistancesUptoSaid : Prop := fnExactDistancesUptoRow.holds Try.pinned (OpenSpec.upto fnExactDistancesSpec)

/-- 'laws.FnExactMissing', WHERE WHAT IT READS IS OF BULK AT MOST 1048576: true; the input reads as it did. -/
def fnExactMissingUptoRow : OpenClaim := { program := "ytlnmiafahjddhab", sum := "52e9cbc532c35409b8496832987964a10dfbd5ba4202b7f5ee32656b5c1986fe", func := "loop.example/g00183/laws.FnExactMissing", spec := "fnExactMissing", apart := false, narrowed := true }
def FnExactMissingUptoSaid : Prop := fnExactMissingUptoRow.holds Try.pinned (OpenSpec.upto fnExactMissingSpec)

/-- 'laws.FnExactOffer', WHERE WHAT IT READS IS OF BULK AT MOST 1048576: true; the input reads as it did. -/
def fnExactOfferUptoRow : OpenClaim := { program := "ytlnmiafahjddhab", sum := "52e9cbc532c35409b8496832987964a10dfbd5ba4202b7f5ee32656b5c1986fe", func := "loop.example/g00183/laws.FnExactOffer", spec := "fnExactOffer", apart := false, narrowed := true }
def FnExactOfferUptoSaid : Prop := fnExactOfferUptoRow.holds Try.pinned (OpenSpec.upto fnExactOfferSpec)

/-- 'laws.FnReceives', WHERE WHAT IT READS IS OF BULK AT MOST 1048576: true; the input reads as it did. -/
def fnReceivesUptoRow : OpenClaim := { program := "ytlnmiafahjddhab", sum := "52e9cbc532c35409b8496832987964a10dfbd5ba4202b7f5ee32656b5c1986fe", func := "loop.example/g00183/laws.FnReceives", spec := "fnReceives", apart := false, narrowed := true }
def FnReceivesUptoSaid : Prop := fnReceivesUptoRow.holds Try.pinned (OpenSpec.upto fnReceivesSpec)

/-- 'laws.FnSites', WHERE WHAT IT READS IS OF BULK AT MOST 1048576: true; the input reads as it did. -/
def fnSitesUptoRow : OpenClaim := { program := "ytlnmiafahjddhab", sum := "52e9cbc532c35409b8496832987964a10dfbd5ba4202b7f5ee32656b5c1986fe", func := "loop.example/g00183/laws.FnSites", spec := "fnSites", apart := false, narrowed := true }
def FnSitesUptoSaid : Prop := fnSitesUptoRow.holds Try.pinned (OpenSpec.upto fnSitesSpec)

/-- 'laws.FnExactTreeOf', WHERE WHAT IT READS IS OF BULK AT MOST 1048576: true; the input reads as it did. -/
def fnExactTreeOfUptoRow : OpenClaim := { program := "ytlnmiafahjddhab", sum := "52e9cbc532c35409b8496832987964a10dfbd5ba4202b7f5ee32656b5c1986fe", func := "loop.example/g00183/laws.FnExactTreeOf", spec := "fnExactTreeOf", apart := false, narrowed := true }
def FnExactTreeOfUptoSaid : Prop := fnExactTreeOfUptoRow.holds Try.pinned (OpenSpec.upto fnExactTreeOfSpec)

/-- 'laws.FnExactSendAgain', WHERE WHAT IT READS IS OF BULK AT MOST 1048576: true; the input reads as it did. -/
def fnExactSendAgainUptoRow : OpenClaim := { program := "ytlnmiafahjddhab", sum := "52e9cbc532c35409b8496832987964a10dfbd5ba4202b7f5ee32656b5c1986fe", func := "loop.example/g00183/laws.FnExactSendAgain", spec := "fnExactSendAgain", apart := false, narrowed := true }
def FnExactSendAgainUptoSaid : Prop := fnExactSendAgainUptoRow.holds Try.pinned (OpenSpec.upto fnExactSendAgainSpec)

end Rows
end Go.Proofs.Ytlnmiafahjddhab
