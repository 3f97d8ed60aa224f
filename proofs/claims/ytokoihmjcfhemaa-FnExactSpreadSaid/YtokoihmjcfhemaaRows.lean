/-
  No cell of these rows narrows 'for every input' (looked for: loops, veiled, ifaces, maps, wideKeys, modest, calm, conditions, laid).
  DERIVED. THE GIVEN ROWS OF THIS SEAT. 5 by the template 'for every input the law returns true; each argument reads behind the call as it read before'; 0 by the template 'total and deterministic' (their statements: YtokoihmjcfhemaaTotals.lean).
  GIVEN WITH THE SEED: the statements are not yours to turn. If you find one false, say at which input.
  Laid BY PROGRAM, IN A SANDBOX (cutbox-rows.mjs): the forced cells as the released guide's own fill.sh prints them over the translation 916055a74f02041b… (all of the seat's roots in one cut). By AI agents, Wed Nov 11 2026. No macro, syntax, notation, axiom, sorry.
-/
import Derived.Test.YtokoihmjcfhemaaChecked
import GoSem.Claim
import GoSem.ClaimJoined
import GoSem.ClaimMapViews
import Derived.JoinedTies
import Derived.KernelRfl
namespace Go.Proofs.Ytokoihmjcfhemaa
/- THE CELL 'sum', in the pinned program and in every row, IS THE sha256 OF THE DUMP (.gsa) THAT YtokoihmjcfhemaaProg.lean LOADS. Nothing in Lean hashes anything: it is a label: what it is worth is what the hold of that sum in a sandbox is worth. -/
noncomputable def Try.pinned : Pinned := { name := "ytokoihmjcfhemaa", sum := "916055a74f02041ba667732a6b19cbf969e86c170a85bca06b96f8552ff87ffa", checked := Try.checked }
namespace Rows
def none {H : Type} : Left H := { results := [], args := [] }

/-- 'laws.FnExactDistances': WHATEVER THE INPUT: true; the input reads as it did. -/
def fnExactDistancesSpec : ChangeSpec := { name := "fnExactDistances", fn := fun _ => fun
  | [d1, d2, d3] => { results := [.lit (.bool true)], args := [d1, d2, d3] }
  | _ => none }
def fnExactDistancesRow : OpenClaim := { program := "ytokoihmjcfhemaa", sum := "916055a74f02041ba667732a6b19cbf969e86c170a85bca06b96f8552ff87ffa", func := "loop.example/g00183/laws.FnExactDistances", spec := "fnExactDistances", apart := false }
def FnExactDistancesSaid : Prop := fnExactDistancesRow.holds Try.pinned (OpenSpec.ofChange fnExactDistancesSpec)

/-- ITS FALSE NEIGHBOUR: 'it returns false'. Refute it at one input. -/
def fnExactDistancesWrong : ChangeSpec := { name := "fnExactDistances", fn := fun _ => fun
  | [d1, d2, d3] => { results := [.lit (.bool false)], args := [d1, d2, d3] }
  | _ => none }
def FnExactDistancesWrongFalsely : Prop := fnExactDistancesRow.holds Try.pinned (OpenSpec.ofChange fnExactDistancesWrong)

/-- 'laws.FnExactTreeOf': WHATEVER THE INPUT: true; the input reads as it did. -/
def fnExactTreeOfSpec : ChangeSpec := { name := "fnExactTreeOf", fn := fun _ => fun
  | [d1, d2, d3] => { results := [.lit (.bool true)], args := [d1, d2, d3] }
  | _ => none }
def fnExactTreeOfRow : OpenClaim := { program := "ytokoihmjcfhemaa", sum := "916055a74f02041ba667732a6b19cbf969e86c170a85bca06b96f8552ff87ffa", func := "loop.example/g00183/laws.FnExactTreeOf", spec := "fnExactTreeOf", apart := false }
def FnExactTreeOfSaid : Prop := fnExactTreeOfRow.holds Try.pinned (OpenSpec.ofChange fnExactTreeOfSpec)

/-- ITS FALSE NEIGHBOUR: 'it returns false'. Refute it at one input. -/
def fnExactTreeOfWrong : ChangeSpec := { name := "fnExactTreeOf", fn := fun _ => fun
  | [d1, d2, d3] => { results := [.lit (.bool false)], args := [d1, d2, d3] }
  | _ => none }
def FnExactTreeOfWrongFalsely : Prop := fnExactTreeOfRow.holds Try.pinned (OpenSpec.ofChange fnExactTreeOfWrong)

/-- 'laws.FnSites': WHATEVER THE INPUT: true; the input reads as it did. -/
def fnSitesSpec : ChangeSpec := { name := "fnSites", fn := fun _ => fun
  | [d] => { results := [.lit (.bool true)], args := [d] }
  | _ => none }
def fnSitesRow : OpenClaim := { program := "ytokoihmjcfhemaa", sum := "916055a74f02041ba667732a6b19cbf969e86c170a85bca06b96f8552ff87ffa", func := "loop.example/g00183/laws.FnSites", spec := "fnSites", apart := false }
def FnSitesSaid : Prop := fnSitesRow.holds Try.pinned (OpenSpec.ofChange fnSitesSpec)

/-- ITS FALSE NEIGHBOUR: 'it returns false'. Refute it at one input. -/
def fnSitesWrong : ChangeSpec := { name := "fnSites", fn := fun _ => fun
  | [d] => { results := [.lit (.bool false)], args := [d] }
  | _ => none }
def FnSitesWrongFalsely : Prop := fnSitesRow.holds Try.pinned (OpenSpec.ofChange fnSitesWrong)

/-- 'laws.FnExactSpread': WHATEVER THE INPUT: true; the input reads as it did. -/
def fnExactSpreadSpec : ChangeSpec := { name := "fnExactSpread", fn := fun _ => fun
  | [d1, d2, d3, d4] => { results := [.lit (.bool true)], args := [d1, d2, d3, d4] }
  | _ => none }
def fnExactSpreadRow : OpenClaim := { program := "ytokoihmjcfhemaa", sum := "916055a74f02041ba667732a6b19cbf969e86c170a85bca06b96f8552ff87ffa", func := "loop.example/g00183/laws.FnExactSpread", spec := "fnExactSpread", unfollowed := true, recurses := true, apart := false }
def FnExactSpreadSaid : Prop := fnExactSpreadRow.holds Try.pinned (OpenSpec.ofChange fnExactSpreadSpec)

/-- ITS FALSE NEIGHBOUR: 'it returns false'. Refute it at one input. -/
def fnExactSpreadWrong : ChangeSpec := { name := "fnExactSpread", fn := fun _ => fun
  | [d1, d2, d3, d4] => { results := [.lit (.bool false)], args := [d1, d2, d3, d4] }
  | _ => none }
def FnExactSpreadWrongFalsely : Prop := fnExactSpreadRow.holds Try.pinned (OpenSpec.ofChange fnExactSpreadWrong)

/-- 'laws.FnSpreads': WHATEVER THE INPUT: true; the input reads as it did. -/
def fnSpreadsSpec : ChangeSpec := { name := "fnSpreads", fn := fun _ => fun
  | [d] => { results := [.lit (.bool true)], args := [d] }
  | _ => none }
def fnSpreadsRow : OpenClaim := { program := "ytokoihmjcfhemaa", sum := "916055a74f02041ba667732a6b19cbf969e86c170a85bca06b96f8552ff87ffa", func := "loop.example/g00183/laws.FnSpreads", spec := "fnSpreads", unfollowed := true, recurses := true, apart := false }
def FnSpreadsSaid : Prop := fnSpreadsRow.holds Try.pinned (OpenSpec.ofChange fnSpreadsSpec)

/-- ITS FALSE NEIGHBOUR: 'it returns false'. Refute it at one input. -/
def fnSpreadsWrong : ChangeSpec := { name := "fnSpreads", fn := fun _ => fun
  | [d] => { results := [.lit (.bool false)], args := [d] }
  | _ => none }
def FnSpreadsWrongFalsely : Prop := fnSpreadsRow.holds Try.pinned (OpenSpec.ofChange fnSpreadsWrong)

/- THE SECOND FORM. 'bulk': how many values and letters a reading holds, each counted each time it is reached (what is shared counts as often as it is met; a slice's spare places count too). A statement '..UptoSaid' is the law's where the arguments, and the package variables that the reading takes, are together of bulk at most 1048576: NARROWER than '..Said'. Prove '..Said' where nothing that the law and all that it calls make is longer than what came in: it says more and counts as full. Else prove '..UptoSaid'. A law counts once. -/
mutual
def uptoBulk {H : Type} : DataW H → Nat
  | .lit (.string bytes) => bytes.length + 1
  | .lit _ => 1
  | .nil => 1
  | .ptr d => uptoBulk d + 1
  | .slice elems spare => uptoBulkAll elems + uptoBulkAll spare + 1
  | .agg parts => uptoBulkAll parts + 1
  | .iface _ d => uptoBulk d + 1
  | .map entries => uptoBulkEntries entries + 1
  | .held _ => 1
def uptoBulkAll {H : Type} : List (DataW H) → Nat
  | [] => 0
  | d :: r => uptoBulk d + uptoBulkAll r
def uptoBulkEntries {H : Type} : List (Lit × DataW H) → Nat
  | [] => 0
  | x :: r => uptoBulkEntry x + uptoBulkEntries r
def uptoBulkEntry {H : Type} : Lit × DataW H → Nat
  | (.string bytes, d) => bytes.length + uptoBulk d + 1
  | (_, d) => uptoBulk d + 1
 end
def uptoSmall : (H : Type) → List (DataW H) → Bool := fun _ ds => decide (uptoBulkAll ds ≤ 1048576)
def OpenSpec.upto (s : _root_.Go.ChangeSpec) : _root_.Go.OpenSpec := { _root_.Go.OpenSpec.ofChange s with cond := some uptoSmall }

/-- 'laws.FnExactDistances', WHERE WHAT IT READS IS OF BULK AT MOST 1048576: true; the input reads as it did. -/
def fnExactDistancesUptoRow : OpenClaim := { program := "ytokoihmjcfhemaa", sum := "916055a74f02041ba667732a6b19cbf969e86c170a85bca06b96f8552ff87ffa", func := "loop.example/g00183/laws.FnExactDistances", spec := "fnExactDistances", apart := false, narrowed := true }
def FnExactDistancesUptoSaid : Prop := fnExactDistancesUptoRow.holds Try.pinned (OpenSpec.upto fnExactDistancesSpec)

/-- 'laws.FnExactTreeOf', WHERE WHAT IT READS IS OF BULK AT MOST 1048576: true; the input reads as it did. -/
def fnExactTreeOfUptoRow : OpenClaim := { program := "ytokoihmjcfhemaa", sum := "916055a74f02041ba667732a6b19cbf969e86c170a85bca06b96f8552ff87ffa", func := "loop.example/g00183/laws.FnExactTreeOf", spec := "fnExactTreeOf", apart := false, narrowed := true }
def FnExactTreeOfUptoSaid : Prop := fnExactTreeOfUptoRow.holds Try.pinned (OpenSpec.upto fnExactTreeOfSpec)

/-- 'laws.FnSites', WHERE WHAT IT READS IS OF BULK AT MOST 1048576: true; the input reads as it did. -/
def fnSitesUptoRow : OpenClaim := { program := "ytokoihmjcfhemaa", sum := "916055a74f02041ba667732a6b19cbf969e86c170a85bca06b96f8552ff87ffa", func := "loop.example/g00183/laws.FnSites", spec := "fnSites", apart := false, narrowed := true }
def FnSitesUptoSaid : Prop := fnSitesUptoRow.holds Try.pinned (OpenSpec.upto fnSitesSpec)

/-- 'laws.FnExactSpread', WHERE WHAT IT READS IS OF BULK AT MOST 1048576: true; the input reads as it did. -/
def fnExactSpreadUptoRow : OpenClaim := { program := "ytokoihmjcfhemaa", sum := "916055a74f02041ba667732a6b19cbf969e86c170a85bca06b96f8552ff87ffa", func := "loop.example/g00183/laws.FnExactSpread", spec := "fnExactSpread", unfollowed := true, recurses := true, apart := false, narrowed := true }
def FnExactSpreadUptoSaid : Prop := fnExactSpreadUptoRow.holds Try.pinned (OpenSpec.upto fnExactSpreadSpec)

/-- 'laws.FnSpreads', WHERE WHAT IT READS IS OF BULK AT MOST 1048576: true; the input reads as it did. -/
def fnSpreadsUptoRow : OpenClaim := { program := "ytokoihmjcfhemaa", sum := "916055a74f02041ba667732a6b19cbf969e86c170a85bca06b96f8552ff87ffa", func := "loop.example/g00183/laws.FnSpreads", spec := "fnSpreads", unfollowed := true, recurses := true, apart := false, narrowed := true }
def FnSpreadsUptoSaid : Prop := fnSpreadsUptoRow.holds Try.pinned (OpenSpec.upto fnSpreadsSpec)

end Rows
end Go.Proofs.Ytokoihmjcfhemaa
