/-
  No cell of these rows narrows 'for every input' (looked for: loops, veiled, ifaces, maps, wideKeys, modest, calm, conditions, laid).
  DERIVED. THE GIVEN ROWS OF THIS SEAT. 5 by the template 'for every input the law returns true; each argument reads behind the call as it read before'; 0 by the template 'total and deterministic' (their statements: YtfkhpenpdeknmaaTotals.lean).
  GIVEN WITH THE SEED: the statements are not yours to turn. If you find one false, say at which input.
  Laid BY PROGRAM, IN A SANDBOX (cutbox-rows.mjs): the forced cells as the released guide's own fill.sh prints them over the translation 7ce75ac3835c9e74… (all of the seat's roots in one cut). By AI agents, Wed Nov 11 2026. No macro, syntax, notation, axiom, sorry.
-/
import Derived.Test.YtfkhpenpdeknmaaChecked
import GoSem.Claim
import GoSem.ClaimJoined
import GoSem.ClaimMapViews
import Derived.JoinedTies
import Derived.KernelRfl
namespace Go.Proofs.Ytfkhpenpdeknmaa
/- THE CELL 'sum', in the pinned program and in every row, IS THE sha256 OF THE DUMP (.gsa) THAT YtfkhpenpdeknmaaProg.lean LOADS. Nothing in Lean hashes anything: it is a label: what it is worth is what the hold of that sum in a sandbox is worth. -/
noncomputable def Try.pinned : Pinned := { name := "ytfkhpenpdeknmaa", sum := "7ce75ac3835c9e74160cc5d9ac907ce0d7cbd114942df9a983606120932d74a9", checked := Try.checked }
namespace Rows
def none {H : Type} : Left H := { results := [], args := [] }

/-- 'laws.FnExactPutItem': WHATEVER THE INPUT: true; the input reads as it did. -/
def fnExactPutItemSpec : ChangeSpec := { name := "fnExactPutItem", fn := fun _ => fun
  | [d1, d2] => { results := [.lit (.bool true)], args := [d1, d2] }
  | _ => none }
def fnExactPutItemRow : OpenClaim := { program := "ytfkhpenpdeknmaa", sum := "7ce75ac3835c9e74160cc5d9ac907ce0d7cbd114942df9a983606120932d74a9", func := "loop.example/g00183/laws.FnExactPutItem", spec := "fnExactPutItem", inPlace := ["slices.overlaps[loop.example/g00183/impl.Item]"], apart := false }
def FnExactPutItemSaid : Prop := fnExactPutItemRow.holds Try.pinned (OpenSpec.ofChange fnExactPutItemSpec)

/-- ITS FALSE NEIGHBOUR: 'it returns false'. Refute it at one input. -/
def fnExactPutItemWrong : ChangeSpec := { name := "fnExactPutItem", fn := fun _ => fun
  | [d1, d2] => { results := [.lit (.bool false)], args := [d1, d2] }
  | _ => none }
def FnExactPutItemWrongFalsely : Prop := fnExactPutItemRow.holds Try.pinned (OpenSpec.ofChange fnExactPutItemWrong)

/-- 'laws.FnExactUnion': WHATEVER THE INPUT: true; the input reads as it did. -/
def fnExactUnionSpec : ChangeSpec := { name := "fnExactUnion", fn := fun _ => fun
  | [d] => { results := [.lit (.bool true)], args := [d] }
  | _ => none }
def fnExactUnionRow : OpenClaim := { program := "ytfkhpenpdeknmaa", sum := "7ce75ac3835c9e74160cc5d9ac907ce0d7cbd114942df9a983606120932d74a9", func := "loop.example/g00183/laws.FnExactUnion", spec := "fnExactUnion", inPlace := ["slices.overlaps[loop.example/g00183/impl.Item]"], apart := false }
def FnExactUnionSaid : Prop := fnExactUnionRow.holds Try.pinned (OpenSpec.ofChange fnExactUnionSpec)

/-- ITS FALSE NEIGHBOUR: 'it returns false'. Refute it at one input. -/
def fnExactUnionWrong : ChangeSpec := { name := "fnExactUnion", fn := fun _ => fun
  | [d] => { results := [.lit (.bool false)], args := [d] }
  | _ => none }
def FnExactUnionWrongFalsely : Prop := fnExactUnionRow.holds Try.pinned (OpenSpec.ofChange fnExactUnionWrong)

/-- 'laws.FnMissing': WHATEVER THE INPUT: true; the input reads as it did. -/
def fnMissingSpec : ChangeSpec := { name := "fnMissing", fn := fun _ => fun
  | [d] => { results := [.lit (.bool true)], args := [d] }
  | _ => none }
def fnMissingRow : OpenClaim := { program := "ytfkhpenpdeknmaa", sum := "7ce75ac3835c9e74160cc5d9ac907ce0d7cbd114942df9a983606120932d74a9", func := "loop.example/g00183/laws.FnMissing", spec := "fnMissing", inPlace := ["slices.overlaps[loop.example/g00183/impl.Item]"], apart := false }
def FnMissingSaid : Prop := fnMissingRow.holds Try.pinned (OpenSpec.ofChange fnMissingSpec)

/-- ITS FALSE NEIGHBOUR: 'it returns false'. Refute it at one input. -/
def fnMissingWrong : ChangeSpec := { name := "fnMissing", fn := fun _ => fun
  | [d] => { results := [.lit (.bool false)], args := [d] }
  | _ => none }
def FnMissingWrongFalsely : Prop := fnMissingRow.holds Try.pinned (OpenSpec.ofChange fnMissingWrong)

/-- 'laws.FnStores': WHATEVER THE INPUT: true; the input reads as it did. -/
def fnStoresSpec : ChangeSpec := { name := "fnStores", fn := fun _ => fun
  | [d] => { results := [.lit (.bool true)], args := [d] }
  | _ => none }
def fnStoresRow : OpenClaim := { program := "ytfkhpenpdeknmaa", sum := "7ce75ac3835c9e74160cc5d9ac907ce0d7cbd114942df9a983606120932d74a9", func := "loop.example/g00183/laws.FnStores", spec := "fnStores", inPlace := ["slices.overlaps[loop.example/g00183/impl.Item]"], apart := false }
def FnStoresSaid : Prop := fnStoresRow.holds Try.pinned (OpenSpec.ofChange fnStoresSpec)

/-- ITS FALSE NEIGHBOUR: 'it returns false'. Refute it at one input. -/
def fnStoresWrong : ChangeSpec := { name := "fnStores", fn := fun _ => fun
  | [d] => { results := [.lit (.bool false)], args := [d] }
  | _ => none }
def FnStoresWrongFalsely : Prop := fnStoresRow.holds Try.pinned (OpenSpec.ofChange fnStoresWrong)

/-- 'laws.FnUnions': WHATEVER THE INPUT: true; the input reads as it did. -/
def fnUnionsSpec : ChangeSpec := { name := "fnUnions", fn := fun _ => fun
  | [d] => { results := [.lit (.bool true)], args := [d] }
  | _ => none }
def fnUnionsRow : OpenClaim := { program := "ytfkhpenpdeknmaa", sum := "7ce75ac3835c9e74160cc5d9ac907ce0d7cbd114942df9a983606120932d74a9", func := "loop.example/g00183/laws.FnUnions", spec := "fnUnions", inPlace := ["slices.overlaps[loop.example/g00183/impl.Item]"], apart := false }
def FnUnionsSaid : Prop := fnUnionsRow.holds Try.pinned (OpenSpec.ofChange fnUnionsSpec)

/-- ITS FALSE NEIGHBOUR: 'it returns false'. Refute it at one input. -/
def fnUnionsWrong : ChangeSpec := { name := "fnUnions", fn := fun _ => fun
  | [d] => { results := [.lit (.bool false)], args := [d] }
  | _ => none }
def FnUnionsWrongFalsely : Prop := fnUnionsRow.holds Try.pinned (OpenSpec.ofChange fnUnionsWrong)

/- THE SECOND FORM. 'bulk': how many values and letters a reading holds, each counted each time it is reached (what is shared counts as often as it is met; a slice's spare places count too). A statement '..UptoSaid' is the law's where the arguments, and the package variables that the reading takes, are together of bulk at most 1048576: NARROWER than '..Said'. Prove '..Said' where nothing that the law and all that it calls make is longer than what came in: it says more and counts as full. Else prove '..UptoSaid'. A law counts once. -/
mutual
def uptoBulk {H : Type} : DataW H → Nat
  | .lit (.string bytes) => bytes.length + 1
  | .lit _ => 1
  | .nil => 1
  | .ptr d => uptoBulk d + 1
  | .slice elems spare => uptoBulkAll elems + uptoBulkAll spare + 1
  | .agg parts => uptoBulkAll parts + 1
  | .iface _ d => uptoBulk d + 1
  | .map entries => uptoBulkEntries entries + 1
  | .held _ => 1
def uptoBulkAll {H : Type} : List (DataW H) → Nat
  | [] => 0
  | d :: r => uptoBulk d + uptoBulkAll r
def uptoBulkEntries {H : Type} : List (Lit × DataW H) → Nat
  | [] => 0
  | x :: r => uptoBulkEntry x + uptoBulkEntries r
def uptoBulkEntry {H : Type} : Lit × DataW H → Nat
  | (.string bytes, d) => bytes.length + uptoBulk d + 1
  | (_, d) => uptoBulk d + 1
 end
def uptoSmall : (H : Type) → List (DataW H) → Bool := fun _ ds => decide (uptoBulkAll ds ≤ 1048576)
def OpenSpec.upto (s : _root_.Go.ChangeSpec) : _root_.Go.OpenSpec := { _root_.Go.OpenSpec.ofChange s with cond := some uptoSmall }

/-- 'laws.FnExactPutItem', WHERE WHAT IT READS IS OF BULK AT MOST 1048576: true; the input reads as it did. -/
def fnExactPutItemUptoRow : OpenClaim := { program := "ytfkhpenpdeknmaa", sum := "7ce75ac3835c9e74160cc5d9ac907ce0d7cbd114942df9a983606120932d74a9", func := "loop.example/g00183/laws.FnExactPutItem", spec := "fnExactPutItem", inPlace := ["slices.overlaps[loop.example/g00183/impl.Item]"], apart := false, narrowed := true }
def FnExactPutItemUptoSaid : Prop := fnExactPutItemUptoRow.holds Try.pinned (OpenSpec.upto fnExactPutItemSpec)

/-- 'laws.FnExactUnion', WHERE WHAT IT READS IS OF BULK AT MOST 1048576: true; the input reads as it did. -/
def fnExactUnionUptoRow : OpenClaim := { program := "ytfkhpenpdeknmaa", sum := "7ce75ac3835c9e74160cc5d9ac907ce0d7cbd114942df9a983606120932d74a9", func := "loop.example/g00183/laws.FnExactUnion", spec := "fnExactUnion", inPlace := ["slices.overlaps[loop.example/g00183/impl.Item]"], apart := false, narrowed := true }
def FnExactUnionUptoSaid : Prop := fnExactUnionUptoRow.holds Try.pinned (OpenSpec.upto fnExactUnionSpec)

/-- 'laws.FnMissing', WHERE WHAT IT READS IS OF BULK AT MOST 1048576: true; the input reads as it did. -/
def fnMissingUptoRow : OpenClaim := { program := "ytfkhpenpdeknmaa", sum := "7ce75ac3835c9e74160cc5d9ac907ce0d7cbd114942df9a983606120932d74a9", func := "loop.example/g00183/laws.FnMissing", spec := "fnMissing", inPlace := ["slices.overlaps[loop.example/g00183/impl.Item]"], apart := false, narrowed := true }
def FnMissingUptoSaid : Prop := fnMissingUptoRow.holds Try.pinned (OpenSpec.upto fnMissingSpec)

/-- 'laws.FnStores', WHERE WHAT IT READS IS OF BULK AT MOST 1048576: true; the input reads as it did. -/
def fnStoresUptoRow : OpenClaim := { program := "ytfkhpenpdeknmaa", sum := "7ce75ac3835c9e74160cc5d9ac907ce0d7cbd114942df9a983606120932d74a9", func := "loop.example/g00183/laws.FnStores", spec := "fnStores", inPlace := ["slices.overlaps[loop.example/g00183/impl.Item]"], apart := false, narrowed := true }
def FnStoresUptoSaid : Prop := fnStoresUptoRow.holds Try.pinned (OpenSpec.upto fnStoresSpec)

/-- 'laws.FnUnions', WHERE WHAT IT READS IS OF BULK AT MOST 1048576: true; the input reads as it did. -/
def fnUnionsUptoRow : OpenClaim := { program := "ytfkhpenpdeknmaa", sum := "7ce75ac3835c9e74160cc5d9ac907ce0d7cbd114942df9a983606120932d74a9", func := "loop.example/g00183/laws.FnUnions", spec := "fnUnions", inPlace := ["slices.overlaps[loop.example/g00183/impl.Item]"], apart := false, narrowed := true }
def FnUnionsUptoSaid : Prop := fnUnionsUptoRow.holds Try.pinned (OpenSpec.upto fnUnionsSpec)

end Rows
end Go.Proofs.Ytfkhpenpdeknmaa
