/-
  No cell of these rows narrows 'for every input' (looked for: loops, veiled, ifaces, maps, wideKeys, modest, calm, conditions, laid).
  DERIVED. THE GIVEN ROWS OF THIS SEAT. 8 by the template 'for every input the law returns true; each argument reads behind the call as it read before'; 0 by the template 'total and deterministic' (their statements: YtlidnobkkgcnlaaTotals.lean).
  GIVEN WITH THE SEED: the statements are not yours to turn. If you find one false, say at which input.
  Laid BY PROGRAM, IN A SANDBOX (cutbox-rows.mjs): the forced cells as the released guide's own fill.sh prints them over the translation f99808e6b85ce8e1… (all of the seat's roots in one cut). By AI agents, Wed Nov 11 2026. No macro, syntax, notation, axiom, sorry.
-/
import Derived.Test.YtlidnobkkgcnlaaChecked
import GoSem.Claim
import GoSem.ClaimJoined
import GoSem.ClaimMapViews
import Derived.JoinedTies
import Derived.KernelRfl
namespace Go.Proofs.Ytlidnobkkgcnlaa
/- THE CELL 'sum', in the pinned program and in every row, IS THE sha256 OF THE DUMP (.gsa) THAT YtlidnobkkgcnlaaProg.lean LOADS. Nothing in Lean hashes anything: it is a label: what it is worth is what the hold of that sum in a sandbox is worth. -/
noncomputable def Try.pinned : Pinned := { name := "ytlidnobkkgcnlaa", sum := "f99808e6b85ce8e1307001555e500b7ba442748ab5e95bc0b9c89d50e347f266", checked := Try.checked }
namespace Rows
def none {H : Type} : Left H := { results := [], args := [] }

/-- 'laws.FnExactOffer': WHATEVER THE INPUT: true; the input reads as it did. -/
def fnExactOfferSpec : ChangeSpec := { name := "fnExactOffer", fn := fun _ => fun
  | [d1, d2] => { results := [.lit (.bool true)], args := [d1, d2] }
  | _ => none }
def fnExactOfferRow : OpenClaim := { program := "ytlidnobkkgcnlaa", sum := "f99808e6b85ce8e1307001555e500b7ba442748ab5e95bc0b9c89d50e347f266", func := "loop.example/g00183/laws.FnExactOffer", spec := "fnExactOffer", apart := false }
def FnExactOfferSaid : Prop := fnExactOfferRow.holds Try.pinned (OpenSpec.ofChange fnExactOfferSpec)

/-- ITS FALSE NEIGHBOUR: 'it returns false'. Refute it at one input. -/
def fnExactOfferWrong : ChangeSpec := { name := "fnExactOffer", fn := fun _ => fun
  | [d1, d2] => { results := [.lit (.bool false)], args := [d1, d2] }
  | _ => none }
def FnExactOfferWrongFalsely : Prop := fnExactOfferRow.holds Try.pinned (OpenSpec.ofChange fnExactOfferWrong)

/-- 'laws.FnReceives': WHATEVER THE INPUT: true; the input reads as it did. -/
def fnReceivesSpec : ChangeSpec := { name := "fnReceives", fn := fun _ => fun
  | [d] => { results := [.lit (.bool true)], args := [d] }
  | _ => none }
def fnReceivesRow : OpenClaim := { program := "ytlidnobkkgcnlaa", sum := "f99808e6b85ce8e1307001555e500b7ba442748ab5e95bc0b9c89d50e347f266", func := "loop.example/g00183/laws.FnReceives", spec := "fnReceives", apart := false }
def FnReceivesSaid : Prop := fnReceivesRow.holds Try.pinned (OpenSpec.ofChange fnReceivesSpec)

/-- ITS FALSE NEIGHBOUR: 'it returns false'. Refute it at one input. -/
def fnReceivesWrong : ChangeSpec := { name := "fnReceives", fn := fun _ => fun
  | [d] => { results := [.lit (.bool false)], args := [d] }
  | _ => none }
def FnReceivesWrongFalsely : Prop := fnReceivesRow.holds Try.pinned (OpenSpec.ofChange fnReceivesWrong)

/-- 'laws.FnExactReceive': WHATEVER THE INPUT: true; the input reads as it did. -/
def fnExactReceiveSpec : ChangeSpec := { name := "fnExactReceive", fn := fun _ => fun
  | [d1, d2] => { results := [.lit (.bool true)], args := [d1, d2] }
  | _ => none }
def fnExactReceiveRow : OpenClaim := { program := "ytlidnobkkgcnlaa", sum := "f99808e6b85ce8e1307001555e500b7ba442748ab5e95bc0b9c89d50e347f266", func := "loop.example/g00183/laws.FnExactReceive", spec := "fnExactReceive", apart := false }
def FnExactReceiveSaid : Prop := fnExactReceiveRow.holds Try.pinned (OpenSpec.ofChange fnExactReceiveSpec)

/-- ITS FALSE NEIGHBOUR: 'it returns false'. Refute it at one input. -/
def fnExactReceiveWrong : ChangeSpec := { name := "fnExactReceive", fn := fun _ => fun
  | [d1, d2] => { results := [.lit (.bool false)], args := [d1, d2] }
  | _ => none }
def FnExactReceiveWrongFalsely : Prop := fnExactReceiveRow.holds Try.pinned (OpenSpec.ofChange fnExactReceiveWrong)

/-- 'laws.FnExactSendAgain': WHATEVER THE INPUT: true; the input reads as it did. -/
def fnExactSendAgainSpec : ChangeSpec := { name := "fnExactSendAgain", fn := fun _ => fun
  | [d] => { results := [.lit (.bool true)], args := [d] }
  | _ => none }
def fnExactSendAgainRow : OpenClaim := { program := "ytlidnobkkgcnlaa", sum := "f99808e6b85ce8e1307001555e500b7ba442748ab5e95bc0b9c89d50e347f266", func := "loop.example/g00183/laws.FnExactSendAgain", spec := "fnExactSendAgain", apart := false }
def FnExactSendAgainSaid : Prop := fnExactSendAgainRow.holds Try.pinned (OpenSpec.ofChange fnExactSendAgainSpec)

/-- ITS FALSE NEIGHBOUR: 'it returns false'. Refute it at one input. -/
def fnExactSendAgainWrong : ChangeSpec := { name := "fnExactSendAgain", fn := fun _ => fun
  | [d] => { results := [.lit (.bool false)], args := [d] }
  | _ => none }
def FnExactSendAgainWrongFalsely : Prop := fnExactSendAgainRow.holds Try.pinned (OpenSpec.ofChange fnExactSendAgainWrong)

/-- 'laws.FnExactSendNew': WHATEVER THE INPUT: true; the input reads as it did. -/
def fnExactSendNewSpec : ChangeSpec := { name := "fnExactSendNew", fn := fun _ => fun
  | [d] => { results := [.lit (.bool true)], args := [d] }
  | _ => none }
def fnExactSendNewRow : OpenClaim := { program := "ytlidnobkkgcnlaa", sum := "f99808e6b85ce8e1307001555e500b7ba442748ab5e95bc0b9c89d50e347f266", func := "loop.example/g00183/laws.FnExactSendNew", spec := "fnExactSendNew", apart := false }
def FnExactSendNewSaid : Prop := fnExactSendNewRow.holds Try.pinned (OpenSpec.ofChange fnExactSendNewSpec)

/-- ITS FALSE NEIGHBOUR: 'it returns false'. Refute it at one input. -/
def fnExactSendNewWrong : ChangeSpec := { name := "fnExactSendNew", fn := fun _ => fun
  | [d] => { results := [.lit (.bool false)], args := [d] }
  | _ => none }
def FnExactSendNewWrongFalsely : Prop := fnExactSendNewRow.holds Try.pinned (OpenSpec.ofChange fnExactSendNewWrong)

/-- 'laws.FnEnds': WHATEVER THE INPUT: true; the input reads as it did. -/
def fnEndsSpec : ChangeSpec := { name := "fnEnds", fn := fun _ => fun
  | [d] => { results := [.lit (.bool true)], args := [d] }
  | _ => none }
def fnEndsRow : OpenClaim := { program := "ytlidnobkkgcnlaa", sum := "f99808e6b85ce8e1307001555e500b7ba442748ab5e95bc0b9c89d50e347f266", func := "loop.example/g00183/laws.FnEnds", spec := "fnEnds", apart := false }
def FnEndsSaid : Prop := fnEndsRow.holds Try.pinned (OpenSpec.ofChange fnEndsSpec)

/-- ITS FALSE NEIGHBOUR: 'it returns false'. Refute it at one input. -/
def fnEndsWrong : ChangeSpec := { name := "fnEnds", fn := fun _ => fun
  | [d] => { results := [.lit (.bool false)], args := [d] }
  | _ => none }
def FnEndsWrongFalsely : Prop := fnEndsRow.holds Try.pinned (OpenSpec.ofChange fnEndsWrong)

/-- 'laws.FnExactTalk': WHATEVER THE INPUT: true; the input reads as it did. -/
def fnExactTalkSpec : ChangeSpec := { name := "fnExactTalk", fn := fun _ => fun
  | [d1, d2] => { results := [.lit (.bool true)], args := [d1, d2] }
  | _ => none }
def fnExactTalkRow : OpenClaim := { program := "ytlidnobkkgcnlaa", sum := "f99808e6b85ce8e1307001555e500b7ba442748ab5e95bc0b9c89d50e347f266", func := "loop.example/g00183/laws.FnExactTalk", spec := "fnExactTalk", apart := false }
def FnExactTalkSaid : Prop := fnExactTalkRow.holds Try.pinned (OpenSpec.ofChange fnExactTalkSpec)

/-- ITS FALSE NEIGHBOUR: 'it returns false'. Refute it at one input. -/
def fnExactTalkWrong : ChangeSpec := { name := "fnExactTalk", fn := fun _ => fun
  | [d1, d2] => { results := [.lit (.bool false)], args := [d1, d2] }
  | _ => none }
def FnExactTalkWrongFalsely : Prop := fnExactTalkRow.holds Try.pinned (OpenSpec.ofChange fnExactTalkWrong)

/-- 'laws.FnLinks': WHATEVER THE INPUT: true; the input reads as it did. -/
def fnLinksSpec : ChangeSpec := { name := "fnLinks", fn := fun _ => fun
  | [d] => { results := [.lit (.bool true)], args := [d] }
  | _ => none }
def fnLinksRow : OpenClaim := { program := "ytlidnobkkgcnlaa", sum := "f99808e6b85ce8e1307001555e500b7ba442748ab5e95bc0b9c89d50e347f266", func := "loop.example/g00183/laws.FnLinks", spec := "fnLinks", apart := false }
def FnLinksSaid : Prop := fnLinksRow.holds Try.pinned (OpenSpec.ofChange fnLinksSpec)

/-- ITS FALSE NEIGHBOUR: 'it returns false'. Refute it at one input. -/
def fnLinksWrong : ChangeSpec := { name := "fnLinks", fn := fun _ => fun
  | [d] => { results := [.lit (.bool false)], args := [d] }
  | _ => none }
def FnLinksWrongFalsely : Prop := fnLinksRow.holds Try.pinned (OpenSpec.ofChange fnLinksWrong)

/- THE SECOND FORM. 'bulk': how many values and letters a reading holds, each counted each time it is reached (what is shared counts as often as it is met; a slice's spare places count too). A statement '..UptoSaid' is the law's where the arguments, and the package variables that the reading takes, are together of bulk at most 1048576: NARROWER than '..Said'. Prove '..Said' where nothing that the law and all that it calls make is longer than what came in: it says more and counts as full. Else prove '..UptoSaid'. A law counts once. -/
mutual
def uptoBulk {H : Type} : DataW H → Nat
  | .lit (.string bytes) => bytes.length + 1
  | .lit _ => 1
  | .nil => 1
  | .ptr d => uptoBulk d + 1
  | .slice elems spare => uptoBulkAll elems + uptoBulkAll spare + 1
  | .agg parts => uptoBulkAll parts + 1
  | .iface _ d => uptoBulk d + 1
  | .map entries => uptoBulkEntries entries + 1
  | .held _ => 1
def uptoBulkAll {H : Type} : List (DataW H) → Nat
  | [] => 0
  | d :: r => uptoBulk d + uptoBulkAll r
def uptoBulkEntries {H : Type} : List (Lit × DataW H) → Nat
  | [] => 0
  | x :: r => uptoBulkEntry x + uptoBulkEntries r
def uptoBulkEntry {H : Type} : Lit × DataW H → Nat
  | (.string bytes, d) => bytes.length + uptoBulk d + 1
  | (_, d) => uptoBulk d + 1
 end
def uptoSmall : (H : Type) → List (DataW H) → Bool := fun _ ds => decide (uptoBulkAll ds ≤ 1048576)
def OpenSpec.upto (s : _root_.Go.ChangeSpec) : _root_.Go.OpenSpec := { _root_.Go.OpenSpec.ofChange s with cond := some uptoSmall }

/-- 'laws.FnExactOffer', WHERE WHAT IT READS IS OF BULK AT MOST 1048576: true; the input reads as it did. -/
def fnExactOfferUptoRow : OpenClaim := { program := "ytlidnobkkgcnlaa", sum := "f99808e6b85ce8e1307001555e500b7ba442748ab5e95bc0b9c89d50e347f266", func := "loop.example/g00183/laws.FnExactOffer", spec := "fnExactOffer", apart := false, narrowed := true }
def FnExactOfferUptoSaid : Prop := fnExactOfferUptoRow.holds Try.pinned (OpenSpec.upto fnExactOfferSpec)

/-- 'laws.FnReceives', WHERE WHAT IT READS IS OF BULK AT MOST 1048576: true; the input reads as it did. -/
def fnReceivesUptoRow : OpenClaim := { program := "ytlidnobkkgcnlaa", sum := "f99808e6b85ce8e1307001555e500b7ba442748ab5e95bc0b9c89d50e347f266", func := "loop.example/g00183/laws.FnReceives", spec := "fnReceives", apart := false, narrowed := true }
def FnReceivesUptoSaid : Prop := fnReceivesUptoRow.holds Try.pinned (OpenSpec.upto fnReceivesSpec)

/-- 'laws.FnExactReceive', WHERE WHAT IT READS IS OF BULK AT MOST 1048576: true; the input reads as it did. -/
def fnExactReceiveUptoRow : OpenClaim := { program := "ytlidnobkkgcnlaa", sum := "f99808e6b85ce8e1307001555e500b7ba442748ab5e95bc0b9c89d50e347f266", func := "loop.example/g00183/laws.FnExactReceive", spec := "fnExactReceive", apart := false, narrowed := true }
def FnExactReceiveUptoSaid : Prop := fnExactReceiveUptoRow.holds Try.pinned (OpenSpec.upto fnExactReceiveSpec)

/-- 'laws.FnExactSendAgain', WHERE WHAT IT READS IS OF BULK AT MOST 1048576: true; the input reads as it did. -/
def fnExactSendAgainUptoRow : OpenClaim := { program := "ytlidnobkkgcnlaa", sum := "f99808e6b85ce8e1307001555e500b7ba442748ab5e95bc0b9c89d50e347f266", func := "loop.example/g00183/laws.FnExactSendAgain", spec := "fnExactSendAgain", apart := false, narrowed := true }
def FnExactSendAgainUptoSaid : Prop := fnExactSendAgainUptoRow.holds Try.pinned (OpenSpec.upto fnExactSendAgainSpec)

/-- 'laws.FnExactSendNew', WHERE WHAT IT READS IS OF BULK AT MOST 1048576: true; the input reads as it did. -/
def fnExactSendNewUptoRow : OpenClaim := { program := "ytlidnobkkgcnlaa", sum := "f99808e6b85ce8e1307001555e500b7ba442748ab5e95bc0b9c89d50e347f266", func := "loop.example/g00183/laws.FnExactSendNew", spec := "fnExactSendNew", apart := false, narrowed := true }
def FnExactSendNewUptoSaid : Prop := fnExactSendNewUptoRow.holds Try.pinned (OpenSpec.upto fnExactSendNewSpec)

/-- 'laws.FnEnds', WHERE WHAT IT READS IS OF BULK AT MOST 1048576: true; the input reads as it did. -/
def fnEndsUptoRow : OpenClaim := { program := "ytlidnobkkgcnlaa", sum := "f99808e6b85ce8e1307001555e500b7ba442748ab5e95bc0b9c89d50e347f266", func := "loop.example/g00183/laws.FnEnds", spec := "fnEnds", apart := false, narrowed := true }
def FnEndsUptoSaid : Prop := fnEndsUptoRow.holds Try.pinned (OpenSpec.upto fnEndsSpec)

/-- 'laws.FnExactTalk', WHERE WHAT IT READS IS OF BULK AT MOST 1048576: true; the input reads as it did. -/
def fnExactTalkUptoRow : OpenClaim := { program := "ytlidnobkkgcnlaa", sum := "f99808e6b85ce8e1307001555e500b7ba442748ab5e95bc0b9c89d50e347f266", func := "loop.example/g00183/laws.FnExactTalk", spec := "fnExactTalk", apart := false, narrowed := true }
def FnExactTalkUptoSaid : Prop := fnExactTalkUptoRow.holds Try.pinned (OpenSpec.upto fnExactTalkSpec)

/-- 'laws.FnLinks', WHERE WHAT IT READS IS OF BULK AT MOST 1048576: true; the input reads as it did. -/
def fnLinksUptoRow : OpenClaim := { program := "ytlidnobkkgcnlaa", sum := "f99808e6b85ce8e1307001555e500b7ba442748ab5e95bc0b9c89d50e347f266", func := "loop.example/g00183/laws.FnLinks", spec := "fnLinks", apart := false, narrowed := true }
def FnLinksUptoSaid : Prop := fnLinksUptoRow.holds Try.pinned (OpenSpec.upto fnLinksSpec)

end Rows
end Go.Proofs.Ytlidnobkkgcnlaa
