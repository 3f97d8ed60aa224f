/-
  No cell of these rows narrows 'for every input' (looked for: loops, veiled, ifaces, maps, wideKeys, modest, calm, conditions, laid).
  DERIVED. THE GIVEN ROWS OF THIS SEAT. 8 by the template 'for every input the law returns true; each argument reads behind the call as it read before'; 0 by the template 'total and deterministic' (their statements: YtlnmiafahjddhadTotals.lean).
  GIVEN WITH THE SEED: the statements are not yours to turn. If you find one false, say at which input.
  Laid BY PROGRAM, IN A SANDBOX (cutbox-rows.mjs): the forced cells as the released guide's own fill.sh prints them over the translation ea976945926ce857… (all of the seat's roots in one cut). By AI agents, Wed Nov 11 2026. No macro, syntax, notation, axiom, sorry.
-/
import Derived.Test.YtlnmiafahjddhadChecked
import GoSem.Claim
import GoSem.ClaimJoined
import GoSem.ClaimMapViews
import Derived.JoinedTies
import Derived.KernelRfl
namespace Go.Proofs.Ytlnmiafahjddhad
/- THE CELL 'sum', in the pinned program and in every row, IS THE sha256 OF THE DUMP (.gsa) THAT YtlnmiafahjddhadProg.lean LOADS. Nothing in Lean hashes anything: it is a label: what it is worth is what the hold of that sum in a sandbox is worth. -/
noncomputable def Try.pinned : Pinned := { name := "ytlnmiafahjddhad", sum := "ea976945926ce85704568ba8eebf0ee65552b57972ac1c7b658a405f28f42854", checked := Try.checked }
namespace Rows
def none {H : Type} : Left H := { results := [], args := [] }

/-- 'laws.FnExactTalk': WHATEVER THE INPUT: true; the input reads as it did. -/
def fnExactTalkSpec : ChangeSpec := { name := "fnExactTalk", fn := fun _ => fun
  | [d1, d2] => { results := [.lit (.bool true)], args := [d1, d2] }
  | _ => none }
def fnExactTalkRow : OpenClaim := { program := "ytlnmiafahjddhad", sum := "ea976945926ce85704568ba8eebf0ee65552b57972ac1c7b658a405f28f42854", func := "loop.example/g00183/laws.FnExactTalk", spec := "fnExactTalk", apart := false }
def FnExactTalkSaid : Prop := fnExactTalkRow.holds Try.pinned (OpenSpec.ofChange fnExactTalkSpec)

/-- ITS FALSE NEIGHBOUR: 'it returns false'. Refute it at one input. -/
def fnExactTalkWrong : ChangeSpec := { name := "fnExactTalk", fn := fun _ => fun
  | [d1, d2] => { results := [.lit (.bool false)], args := [d1, d2] }
  | _ => none }
def FnExactTalkWrongFalsely : Prop := fnExactTalkRow.holds Try.pinned (OpenSpec.ofChange fnExactTalkWrong)

/-- 'laws.FnSorts': WHATEVER THE INPUT: true; the input reads as it did. -/
def fnSortsSpec : ChangeSpec := { name := "fnSorts", fn := fun _ => fun
  | [d] => { results := [.lit (.bool true)], args := [d] }
  | _ => none }
def fnSortsRow : OpenClaim := { program := "ytlnmiafahjddhad", sum := "ea976945926ce85704568ba8eebf0ee65552b57972ac1c7b658a405f28f42854", func := "loop.example/g00183/laws.FnSorts", spec := "fnSorts", recurses := true, apart := false }
def FnSortsSaid : Prop := fnSortsRow.holds Try.pinned (OpenSpec.ofChange fnSortsSpec)

/-- ITS FALSE NEIGHBOUR: 'it returns false'. Refute it at one input. -/
def fnSortsWrong : ChangeSpec := { name := "fnSorts", fn := fun _ => fun
  | [d] => { results := [.lit (.bool false)], args := [d] }
  | _ => none }
def FnSortsWrongFalsely : Prop := fnSortsRow.holds Try.pinned (OpenSpec.ofChange fnSortsWrong)

/-- 'laws.FnExactSortNames': WHATEVER THE INPUT: true; the input reads as it did. -/
def fnExactSortNamesSpec : ChangeSpec := { name := "fnExactSortNames", fn := fun _ => fun
  | [d] => { results := [.lit (.bool true)], args := [d] }
  | _ => none }
def fnExactSortNamesRow : OpenClaim := { program := "ytlnmiafahjddhad", sum := "ea976945926ce85704568ba8eebf0ee65552b57972ac1c7b658a405f28f42854", func := "loop.example/g00183/laws.FnExactSortNames", spec := "fnExactSortNames", recurses := true, apart := false }
def FnExactSortNamesSaid : Prop := fnExactSortNamesRow.holds Try.pinned (OpenSpec.ofChange fnExactSortNamesSpec)

/-- ITS FALSE NEIGHBOUR: 'it returns false'. Refute it at one input. -/
def fnExactSortNamesWrong : ChangeSpec := { name := "fnExactSortNames", fn := fun _ => fun
  | [d] => { results := [.lit (.bool false)], args := [d] }
  | _ => none }
def FnExactSortNamesWrongFalsely : Prop := fnExactSortNamesRow.holds Try.pinned (OpenSpec.ofChange fnExactSortNamesWrong)

/-- 'laws.FnExactCutAt': WHATEVER THE INPUT: true; the input reads as it did. -/
def fnExactCutAtSpec : ChangeSpec := { name := "fnExactCutAt", fn := fun _ => fun
  | [d1, d2] => { results := [.lit (.bool true)], args := [d1, d2] }
  | _ => none }
def fnExactCutAtRow : OpenClaim := { program := "ytlnmiafahjddhad", sum := "ea976945926ce85704568ba8eebf0ee65552b57972ac1c7b658a405f28f42854", func := "loop.example/g00183/laws.FnExactCutAt", spec := "fnExactCutAt", recurses := true, apart := false }
def FnExactCutAtSaid : Prop := fnExactCutAtRow.holds Try.pinned (OpenSpec.ofChange fnExactCutAtSpec)

/-- ITS FALSE NEIGHBOUR: 'it returns false'. Refute it at one input. -/
def fnExactCutAtWrong : ChangeSpec := { name := "fnExactCutAt", fn := fun _ => fun
  | [d1, d2] => { results := [.lit (.bool false)], args := [d1, d2] }
  | _ => none }
def FnExactCutAtWrongFalsely : Prop := fnExactCutAtRow.holds Try.pinned (OpenSpec.ofChange fnExactCutAtWrong)

/-- 'laws.FnCuts': WHATEVER THE INPUT: true; the input reads as it did. -/
def fnCutsSpec : ChangeSpec := { name := "fnCuts", fn := fun _ => fun
  | [d] => { results := [.lit (.bool true)], args := [d] }
  | _ => none }
def fnCutsRow : OpenClaim := { program := "ytlnmiafahjddhad", sum := "ea976945926ce85704568ba8eebf0ee65552b57972ac1c7b658a405f28f42854", func := "loop.example/g00183/laws.FnCuts", spec := "fnCuts", recurses := true, apart := false }
def FnCutsSaid : Prop := fnCutsRow.holds Try.pinned (OpenSpec.ofChange fnCutsSpec)

/-- ITS FALSE NEIGHBOUR: 'it returns false'. Refute it at one input. -/
def fnCutsWrong : ChangeSpec := { name := "fnCuts", fn := fun _ => fun
  | [d] => { results := [.lit (.bool false)], args := [d] }
  | _ => none }
def FnCutsWrongFalsely : Prop := fnCutsRow.holds Try.pinned (OpenSpec.ofChange fnCutsWrong)

/-- 'laws.FnFrames': WHATEVER THE INPUT: true; the input reads as it did. -/
def fnFramesSpec : ChangeSpec := { name := "fnFrames", fn := fun _ => fun
  | [d] => { results := [.lit (.bool true)], args := [d] }
  | _ => none }
def fnFramesRow : OpenClaim := { program := "ytlnmiafahjddhad", sum := "ea976945926ce85704568ba8eebf0ee65552b57972ac1c7b658a405f28f42854", func := "loop.example/g00183/laws.FnFrames", spec := "fnFrames", recurses := true, apart := false }
def FnFramesSaid : Prop := fnFramesRow.holds Try.pinned (OpenSpec.ofChange fnFramesSpec)

/-- ITS FALSE NEIGHBOUR: 'it returns false'. Refute it at one input. -/
def fnFramesWrong : ChangeSpec := { name := "fnFrames", fn := fun _ => fun
  | [d] => { results := [.lit (.bool false)], args := [d] }
  | _ => none }
def FnFramesWrongFalsely : Prop := fnFramesRow.holds Try.pinned (OpenSpec.ofChange fnFramesWrong)

/-- 'laws.FnSpreads': WHATEVER THE INPUT: true; the input reads as it did. -/
def fnSpreadsSpec : ChangeSpec := { name := "fnSpreads", fn := fun _ => fun
  | [d] => { results := [.lit (.bool true)], args := [d] }
  | _ => none }
def fnSpreadsRow : OpenClaim := { program := "ytlnmiafahjddhad", sum := "ea976945926ce85704568ba8eebf0ee65552b57972ac1c7b658a405f28f42854", func := "loop.example/g00183/laws.FnSpreads", spec := "fnSpreads", unfollowed := true, recurses := true, apart := false }
def FnSpreadsSaid : Prop := fnSpreadsRow.holds Try.pinned (OpenSpec.ofChange fnSpreadsSpec)

/-- ITS FALSE NEIGHBOUR: 'it returns false'. Refute it at one input. -/
def fnSpreadsWrong : ChangeSpec := { name := "fnSpreads", fn := fun _ => fun
  | [d] => { results := [.lit (.bool false)], args := [d] }
  | _ => none }
def FnSpreadsWrongFalsely : Prop := fnSpreadsRow.holds Try.pinned (OpenSpec.ofChange fnSpreadsWrong)

/-- 'laws.FnExactSpread': WHATEVER THE INPUT: true; the input reads as it did. -/
def fnExactSpreadSpec : ChangeSpec := { name := "fnExactSpread", fn := fun _ => fun
  | [d1, d2, d3, d4] => { results := [.lit (.bool true)], args := [d1, d2, d3, d4] }
  | _ => none }
def fnExactSpreadRow : OpenClaim := { program := "ytlnmiafahjddhad", sum := "ea976945926ce85704568ba8eebf0ee65552b57972ac1c7b658a405f28f42854", func := "loop.example/g00183/laws.FnExactSpread", spec := "fnExactSpread", unfollowed := true, recurses := true, apart := false }
def FnExactSpreadSaid : Prop := fnExactSpreadRow.holds Try.pinned (OpenSpec.ofChange fnExactSpreadSpec)

/-- ITS FALSE NEIGHBOUR: 'it returns false'. Refute it at one input. -/
def fnExactSpreadWrong : ChangeSpec := { name := "fnExactSpread", fn := fun _ => fun
  | [d1, d2, d3, d4] => { results := [.lit (.bool false)], args := [d1, d2, d3, d4] }
  | _ => none }
def FnExactSpreadWrongFalsely : Prop := fnExactSpreadRow.holds Try.pinned (OpenSpec.ofChange fnExactSpreadWrong)

/- THE SECOND FORM. 'bulk': how many values and letters a reading holds, each counted each time it is reached (what is shared counts as often as it is met; a slice's spare places count too). A statement '..UptoSaid' is the law's where the arguments, and the package variables that the reading takes, are together of bulk at most 1048576: NARROWER than '..Said'. Prove '..Said' where nothing that the law and all that it calls make is longer than what came in: it says more and counts as full. Else prove '..UptoSaid'. A law counts once. -/
mutual
def uptoBulk {H : Type} : DataW H → Nat
  | .lit (.string bytes) => bytes.length + 1
  | .lit _ => 1
  | .nil => 1
  | .ptr d => uptoBulk d + 1
  | .slice elems spare => uptoBulkAll elems + uptoBulkAll spare + 1
  | .agg parts => uptoBulkAll parts + 1
  | .iface _ d => uptoBulk d + 1
  | .map entries => uptoBulkEntries entries + 1
  | .held _ => 1
def uptoBulkAll {H : Type} : List (DataW H) → Nat
  | [] => 0
  | d :: r => uptoBulk d + uptoBulkAll r
def uptoBulkEntries {H : Type} : List (Lit × DataW H) → Nat
  | [] => 0
  | x :: r => uptoBulkEntry x + uptoBulkEntries r
def uptoBulkEntry {H : Type} : Lit × DataW H → Nat
  | (.string bytes, d) => bytes.length + uptoBulk d + 1
  | (_, d) => uptoBulk d + 1
 end
def uptoSmall : (H : Type) → List (DataW H) → Bool := fun _ ds => decide (uptoBulkAll ds ≤ 1048576)
def OpenSpec.upto (s : _root_.Go.ChangeSpec) : _root_.Go.OpenSpec := { _root_.Go.OpenSpec.ofChange s with cond := some uptoSmall }

/-- 'laws.FnExactTalk', WHERE WHAT IT READS IS OF BULK AT MOST 1048576: true; the input reads as it did. -/
def fnExactTalkUptoRow : OpenClaim := { program := "ytlnmiafahjddhad", sum := "ea976945926ce85704568ba8eebf0ee65552b57972ac1c7b658a405f28f42854", func := "loop.example/g00183/laws.FnExactTalk", spec := "fnExactTalk", apart := false, narrowed := true }
def FnExactTalkUptoSaid : Prop := fnExactTalkUptoRow.holds Try.pinned (OpenSpec.upto fnExactTalkSpec)

/-- 'laws.FnSorts', WHERE WHAT IT READS IS OF BULK AT MOST 1048576: true; the input reads as it did. -/
def fnSortsUptoRow : OpenClaim := { program := "ytlnmiafahjddhad", sum := "ea976945926ce85704568ba8eebf0ee65552b57972ac1c7b658a405f28f42854", func := "loop.example/g00183/laws.FnSorts", spec := "fnSorts", recurses := true, apart := false, narrowed := true }
def FnSortsUptoSaid : Prop := fnSortsUptoRow.holds Try.pinned (OpenSpec.upto fnSortsSpec)

/-- 'laws.FnExactSortNames', WHERE WHAT IT READS IS OF BULK AT MOST 1048576: true; the input reads as it did. -/
def fnExactSortNamesUptoRow : OpenClaim := { program := "ytlnmiafahjddhad", sum := "ea976945926ce85704568ba8eebf0ee65552b57972ac1c7b658a405f28f42854", func := "loop.example/g00183/laws.FnExactSortNames", spec := "fnExactSortNames", recurses := true, apart := false, narrowed := true }
def FnExactSortNamesUptoSaid : Prop := fnExactSortNamesUptoRow.holds Try.pinned (OpenSpec.upto fnExactSortNamesSpec)

/-- 'laws.FnExactCutAt', WHERE WHAT IT READS IS OF BULK AT MOST 1048576: true; the input reads as it did. -/
def fnExactCutAtUptoRow : OpenClaim := { program := "ytlnmiafahjddhad", sum := "ea976945926ce85704568ba8eebf0ee65552b57972ac1c7b658a405f28f42854", func := "loop.example/g00183/laws.FnExactCutAt", spec := "fnExactCutAt", recurses := true, apart := false, narrowed := true }
def FnExactCutAtUptoSaid : Prop := fnExactCutAtUptoRow.holds Try.pinned (OpenSpec.upto fnExactCutAtSpec)

/-- 'laws.FnCuts', WHERE WHAT IT READS IS OF BULK AT MOST 1048576: true; the input reads as it did. -/
def fnCutsUptoRow : OpenClaim := { program := "ytlnmiafahjddhad", sum := "ea976945926ce85704568ba8eebf0ee65552b57972ac1c7b658a405f28f42854", func := "loop.example/g00183/laws.FnCuts", spec := "fnCuts", recurses := true, apart := false, narrowed := true }
def FnCutsUptoSaid : Prop := fnCutsUptoRow.holds Try.pinned (OpenSpec.upto fnCutsSpec)

/-- 'laws.FnFrames', WHERE WHAT IT READS IS OF BULK AT MOST 1048576: true; the input reads as it did. -/
def fnFramesUptoRow : OpenClaim := { program := "ytlnmiafahjddhad", sum := "ea976945926ce85704568ba8eebf0ee65552b57972ac1c7b658a405f28f42854", func := "loop.example/g00183/laws.FnFrames", spec := "fnFrames", recurses := true, apart := false, narrowed := true }
def FnFramesUptoSaid : Prop := fnFramesUptoRow.holds Try.pinned (OpenSpec.upto fnFramesSpec)

/-- 'laws.FnSpreads', WHERE WHAT IT READS IS OF BULK AT MOST 1048576: true; the input reads as it did. -/
def fnSpreadsUptoRow : OpenClaim := { program := "ytlnmiafahjddhad", sum := "ea976945926ce85704568ba8eebf0ee65552b57972ac1c7b658a405f28f42854", func := "loop.example/g00183/laws.FnSpreads", spec := "fnSpreads", unfollowed := true, recurses := true, apart := false, narrowed := true }
def FnSpreadsUptoSaid : Prop := fnSpreadsUptoRow.holds Try.pinned (OpenSpec.upto fnSpreadsSpec)

/-- 'laws.FnExactSpread', WHERE WHAT IT READS IS OF BULK AT MOST 1048576: true; the input reads as it did. -/
def fnExactSpreadUptoRow : OpenClaim := { program := "ytlnmiafahjddhad", sum := "ea976945926ce85704568ba8eebf0ee65552b57972ac1c7b658a405f28f42854", func := "loop.example/g00183/laws.FnExactSpread", spec := "fnExactSpread", unfollowed := true, recurses := true, apart := false, narrowed := true }
def FnExactSpreadUptoSaid : Prop := fnExactSpreadUptoRow.holds Try.pinned (OpenSpec.upto fnExactSpreadSpec)

end Rows
end Go.Proofs.Ytlnmiafahjddhad
