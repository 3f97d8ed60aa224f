/-
  No cell of these rows narrows 'for every input' (looked for: loops, veiled, ifaces, maps, wideKeys, modest, calm, conditions, laid).
  DERIVED. THE GIVEN ROWS OF THIS SEAT. 12 by the template 'for every input the law returns true; each argument reads behind the call as it read before'; 0 by the template 'total and deterministic' (their statements: YtlnmiafahjddhaaTotals.lean).
  GIVEN WITH THE SEED: the statements are not yours to turn. If you find one false, say at which input.
  Laid BY PROGRAM, IN A SANDBOX (cutbox-rows.mjs): the forced cells as the released guide's own fill.sh prints them over the translation 99863afa3f70cac8… (all of the seat's roots in one cut). By AI agents, Wed Nov 11 2026. No macro, syntax, notation, axiom, sorry.
-/
import Derived.Test.YtlnmiafahjddhaaChecked
import GoSem.Claim
import GoSem.ClaimJoined
import GoSem.ClaimMapViews
import Derived.JoinedTies
import Derived.KernelRfl
namespace Go.Proofs.Ytlnmiafahjddhaa
/- THE CELL 'sum', in the pinned program and in every row, IS THE sha256 OF THE DUMP (.gsa) THAT YtlnmiafahjddhaaProg.lean LOADS. Nothing in Lean hashes anything: it is a label: what it is worth is what the hold of that sum in a sandbox is worth. -/
noncomputable def Try.pinned : Pinned := { name := "ytlnmiafahjddhaa", sum := "99863afa3f70cac8bf61eaa49ea3b29eea329e6be9f2e2629811aa963e4afadc", checked := Try.checked }
namespace Rows
def none {H : Type} : Left H := { results := [], args := [] }

/-- 'laws.FnExactUnsealed': WHATEVER THE INPUT: true; the input reads as it did. -/
def fnExactUnsealedSpec : ChangeSpec := { name := "fnExactUnsealed", fn := fun _ => fun
  | [d] => { results := [.lit (.bool true)], args := [d] }
  | _ => none }
def fnExactUnsealedRow : OpenClaim := { program := "ytlnmiafahjddhaa", sum := "99863afa3f70cac8bf61eaa49ea3b29eea329e6be9f2e2629811aa963e4afadc", func := "loop.example/g00183/laws.FnExactUnsealed", spec := "fnExactUnsealed", apart := false }
def FnExactUnsealedSaid : Prop := fnExactUnsealedRow.holds Try.pinned (OpenSpec.ofChange fnExactUnsealedSpec)

/-- ITS FALSE NEIGHBOUR: 'it returns false'. Refute it at one input. -/
def fnExactUnsealedWrong : ChangeSpec := { name := "fnExactUnsealed", fn := fun _ => fun
  | [d] => { results := [.lit (.bool false)], args := [d] }
  | _ => none }
def FnExactUnsealedWrongFalsely : Prop := fnExactUnsealedRow.holds Try.pinned (OpenSpec.ofChange fnExactUnsealedWrong)

/-- 'laws.FnExactChildren': WHATEVER THE INPUT: true; the input reads as it did. -/
def fnExactChildrenSpec : ChangeSpec := { name := "fnExactChildren", fn := fun _ => fun
  | [d1, d2] => { results := [.lit (.bool true)], args := [d1, d2] }
  | _ => none }
def fnExactChildrenRow : OpenClaim := { program := "ytlnmiafahjddhaa", sum := "99863afa3f70cac8bf61eaa49ea3b29eea329e6be9f2e2629811aa963e4afadc", func := "loop.example/g00183/laws.FnExactChildren", spec := "fnExactChildren", apart := false }
def FnExactChildrenSaid : Prop := fnExactChildrenRow.holds Try.pinned (OpenSpec.ofChange fnExactChildrenSpec)

/-- ITS FALSE NEIGHBOUR: 'it returns false'. Refute it at one input. -/
def fnExactChildrenWrong : ChangeSpec := { name := "fnExactChildren", fn := fun _ => fun
  | [d1, d2] => { results := [.lit (.bool false)], args := [d1, d2] }
  | _ => none }
def FnExactChildrenWrongFalsely : Prop := fnExactChildrenRow.holds Try.pinned (OpenSpec.ofChange fnExactChildrenWrong)

/-- 'laws.FnExactFrameOf': WHATEVER THE INPUT: true; the input reads as it did. -/
def fnExactFrameOfSpec : ChangeSpec := { name := "fnExactFrameOf", fn := fun _ => fun
  | [d] => { results := [.lit (.bool true)], args := [d] }
  | _ => none }
def fnExactFrameOfRow : OpenClaim := { program := "ytlnmiafahjddhaa", sum := "99863afa3f70cac8bf61eaa49ea3b29eea329e6be9f2e2629811aa963e4afadc", func := "loop.example/g00183/laws.FnExactFrameOf", spec := "fnExactFrameOf", apart := false }
def FnExactFrameOfSaid : Prop := fnExactFrameOfRow.holds Try.pinned (OpenSpec.ofChange fnExactFrameOfSpec)

/-- ITS FALSE NEIGHBOUR: 'it returns false'. Refute it at one input. -/
def fnExactFrameOfWrong : ChangeSpec := { name := "fnExactFrameOf", fn := fun _ => fun
  | [d] => { results := [.lit (.bool false)], args := [d] }
  | _ => none }
def FnExactFrameOfWrongFalsely : Prop := fnExactFrameOfRow.holds Try.pinned (OpenSpec.ofChange fnExactFrameOfWrong)

/-- 'laws.FnExactReadShort': WHATEVER THE INPUT: true; the input reads as it did. -/
def fnExactReadShortSpec : ChangeSpec := { name := "fnExactReadShort", fn := fun _ => fun
  | [d1, d2] => { results := [.lit (.bool true)], args := [d1, d2] }
  | _ => none }
def fnExactReadShortRow : OpenClaim := { program := "ytlnmiafahjddhaa", sum := "99863afa3f70cac8bf61eaa49ea3b29eea329e6be9f2e2629811aa963e4afadc", func := "loop.example/g00183/laws.FnExactReadShort", spec := "fnExactReadShort", apart := false }
def FnExactReadShortSaid : Prop := fnExactReadShortRow.holds Try.pinned (OpenSpec.ofChange fnExactReadShortSpec)

/-- ITS FALSE NEIGHBOUR: 'it returns false'. Refute it at one input. -/
def fnExactReadShortWrong : ChangeSpec := { name := "fnExactReadShort", fn := fun _ => fun
  | [d1, d2] => { results := [.lit (.bool false)], args := [d1, d2] }
  | _ => none }
def FnExactReadShortWrongFalsely : Prop := fnExactReadShortRow.holds Try.pinned (OpenSpec.ofChange fnExactReadShortWrong)

/-- 'laws.FnExactItemText': WHATEVER THE INPUT: true; the input reads as it did. -/
def fnExactItemTextSpec : ChangeSpec := { name := "fnExactItemText", fn := fun _ => fun
  | [d] => { results := [.lit (.bool true)], args := [d] }
  | _ => none }
def fnExactItemTextRow : OpenClaim := { program := "ytlnmiafahjddhaa", sum := "99863afa3f70cac8bf61eaa49ea3b29eea329e6be9f2e2629811aa963e4afadc", func := "loop.example/g00183/laws.FnExactItemText", spec := "fnExactItemText", apart := false }
def FnExactItemTextSaid : Prop := fnExactItemTextRow.holds Try.pinned (OpenSpec.ofChange fnExactItemTextSpec)

/-- ITS FALSE NEIGHBOUR: 'it returns false'. Refute it at one input. -/
def fnExactItemTextWrong : ChangeSpec := { name := "fnExactItemText", fn := fun _ => fun
  | [d] => { results := [.lit (.bool false)], args := [d] }
  | _ => none }
def FnExactItemTextWrongFalsely : Prop := fnExactItemTextRow.holds Try.pinned (OpenSpec.ofChange fnExactItemTextWrong)

/-- 'laws.FnExactRingOk': WHATEVER THE INPUT: true; the input reads as it did. -/
def fnExactRingOkSpec : ChangeSpec := { name := "fnExactRingOk", fn := fun _ => fun
  | [d] => { results := [.lit (.bool true)], args := [d] }
  | _ => none }
def fnExactRingOkRow : OpenClaim := { program := "ytlnmiafahjddhaa", sum := "99863afa3f70cac8bf61eaa49ea3b29eea329e6be9f2e2629811aa963e4afadc", func := "loop.example/g00183/laws.FnExactRingOk", spec := "fnExactRingOk", apart := false }
def FnExactRingOkSaid : Prop := fnExactRingOkRow.holds Try.pinned (OpenSpec.ofChange fnExactRingOkSpec)

/-- ITS FALSE NEIGHBOUR: 'it returns false'. Refute it at one input. -/
def fnExactRingOkWrong : ChangeSpec := { name := "fnExactRingOk", fn := fun _ => fun
  | [d] => { results := [.lit (.bool false)], args := [d] }
  | _ => none }
def FnExactRingOkWrongFalsely : Prop := fnExactRingOkRow.holds Try.pinned (OpenSpec.ofChange fnExactRingOkWrong)

/-- 'laws.FnExactItemAt': WHATEVER THE INPUT: true; the input reads as it did. -/
def fnExactItemAtSpec : ChangeSpec := { name := "fnExactItemAt", fn := fun _ => fun
  | [d1, d2] => { results := [.lit (.bool true)], args := [d1, d2] }
  | _ => none }
def fnExactItemAtRow : OpenClaim := { program := "ytlnmiafahjddhaa", sum := "99863afa3f70cac8bf61eaa49ea3b29eea329e6be9f2e2629811aa963e4afadc", func := "loop.example/g00183/laws.FnExactItemAt", spec := "fnExactItemAt", apart := false }
def FnExactItemAtSaid : Prop := fnExactItemAtRow.holds Try.pinned (OpenSpec.ofChange fnExactItemAtSpec)

/-- ITS FALSE NEIGHBOUR: 'it returns false'. Refute it at one input. -/
def fnExactItemAtWrong : ChangeSpec := { name := "fnExactItemAt", fn := fun _ => fun
  | [d1, d2] => { results := [.lit (.bool false)], args := [d1, d2] }
  | _ => none }
def FnExactItemAtWrongFalsely : Prop := fnExactItemAtRow.holds Try.pinned (OpenSpec.ofChange fnExactItemAtWrong)

/-- 'laws.FnExactRoadsOk': WHATEVER THE INPUT: true; the input reads as it did. -/
def fnExactRoadsOkSpec : ChangeSpec := { name := "fnExactRoadsOk", fn := fun _ => fun
  | [d1, d2] => { results := [.lit (.bool true)], args := [d1, d2] }
  | _ => none }
def fnExactRoadsOkRow : OpenClaim := { program := "ytlnmiafahjddhaa", sum := "99863afa3f70cac8bf61eaa49ea3b29eea329e6be9f2e2629811aa963e4afadc", func := "loop.example/g00183/laws.FnExactRoadsOk", spec := "fnExactRoadsOk", apart := false }
def FnExactRoadsOkSaid : Prop := fnExactRoadsOkRow.holds Try.pinned (OpenSpec.ofChange fnExactRoadsOkSpec)

/-- ITS FALSE NEIGHBOUR: 'it returns false'. Refute it at one input. -/
def fnExactRoadsOkWrong : ChangeSpec := { name := "fnExactRoadsOk", fn := fun _ => fun
  | [d1, d2] => { results := [.lit (.bool false)], args := [d1, d2] }
  | _ => none }
def FnExactRoadsOkWrongFalsely : Prop := fnExactRoadsOkRow.holds Try.pinned (OpenSpec.ofChange fnExactRoadsOkWrong)

/-- 'laws.FnTurned': WHATEVER THE INPUT: true; the input reads as it did. -/
def fnTurnedSpec : ChangeSpec := { name := "fnTurned", fn := fun _ => fun
  | [d] => { results := [.lit (.bool true)], args := [d] }
  | _ => none }
def fnTurnedRow : OpenClaim := { program := "ytlnmiafahjddhaa", sum := "99863afa3f70cac8bf61eaa49ea3b29eea329e6be9f2e2629811aa963e4afadc", func := "loop.example/g00183/laws.FnTurned", spec := "fnTurned", apart := false }
def FnTurnedSaid : Prop := fnTurnedRow.holds Try.pinned (OpenSpec.ofChange fnTurnedSpec)

/-- ITS FALSE NEIGHBOUR: 'it returns false'. Refute it at one input. -/
def fnTurnedWrong : ChangeSpec := { name := "fnTurned", fn := fun _ => fun
  | [d] => { results := [.lit (.bool false)], args := [d] }
  | _ => none }
def FnTurnedWrongFalsely : Prop := fnTurnedRow.holds Try.pinned (OpenSpec.ofChange fnTurnedWrong)

/-- 'laws.FnExactTokenOk': WHATEVER THE INPUT: true; the input reads as it did. -/
def fnExactTokenOkSpec : ChangeSpec := { name := "fnExactTokenOk", fn := fun _ => fun
  | [d] => { results := [.lit (.bool true)], args := [d] }
  | _ => none }
def fnExactTokenOkRow : OpenClaim := { program := "ytlnmiafahjddhaa", sum := "99863afa3f70cac8bf61eaa49ea3b29eea329e6be9f2e2629811aa963e4afadc", func := "loop.example/g00183/laws.FnExactTokenOk", spec := "fnExactTokenOk", apart := false }
def FnExactTokenOkSaid : Prop := fnExactTokenOkRow.holds Try.pinned (OpenSpec.ofChange fnExactTokenOkSpec)

/-- ITS FALSE NEIGHBOUR: 'it returns false'. Refute it at one input. -/
def fnExactTokenOkWrong : ChangeSpec := { name := "fnExactTokenOk", fn := fun _ => fun
  | [d] => { results := [.lit (.bool false)], args := [d] }
  | _ => none }
def FnExactTokenOkWrongFalsely : Prop := fnExactTokenOkRow.holds Try.pinned (OpenSpec.ofChange fnExactTokenOkWrong)

/-- 'laws.FnExactItemsOk': WHATEVER THE INPUT: true; the input reads as it did. -/
def fnExactItemsOkSpec : ChangeSpec := { name := "fnExactItemsOk", fn := fun _ => fun
  | [d] => { results := [.lit (.bool true)], args := [d] }
  | _ => none }
def fnExactItemsOkRow : OpenClaim := { program := "ytlnmiafahjddhaa", sum := "99863afa3f70cac8bf61eaa49ea3b29eea329e6be9f2e2629811aa963e4afadc", func := "loop.example/g00183/laws.FnExactItemsOk", spec := "fnExactItemsOk", apart := false }
def FnExactItemsOkSaid : Prop := fnExactItemsOkRow.holds Try.pinned (OpenSpec.ofChange fnExactItemsOkSpec)

/-- ITS FALSE NEIGHBOUR: 'it returns false'. Refute it at one input. -/
def fnExactItemsOkWrong : ChangeSpec := { name := "fnExactItemsOk", fn := fun _ => fun
  | [d] => { results := [.lit (.bool false)], args := [d] }
  | _ => none }
def FnExactItemsOkWrongFalsely : Prop := fnExactItemsOkRow.holds Try.pinned (OpenSpec.ofChange fnExactItemsOkWrong)

/-- 'laws.FnExactAruOf': WHATEVER THE INPUT: true; the input reads as it did. -/
def fnExactAruOfSpec : ChangeSpec := { name := "fnExactAruOf", fn := fun _ => fun
  | [d] => { results := [.lit (.bool true)], args := [d] }
  | _ => none }
def fnExactAruOfRow : OpenClaim := { program := "ytlnmiafahjddhaa", sum := "99863afa3f70cac8bf61eaa49ea3b29eea329e6be9f2e2629811aa963e4afadc", func := "loop.example/g00183/laws.FnExactAruOf", spec := "fnExactAruOf", apart := false }
def FnExactAruOfSaid : Prop := fnExactAruOfRow.holds Try.pinned (OpenSpec.ofChange fnExactAruOfSpec)

/-- ITS FALSE NEIGHBOUR: 'it returns false'. Refute it at one input. -/
def fnExactAruOfWrong : ChangeSpec := { name := "fnExactAruOf", fn := fun _ => fun
  | [d] => { results := [.lit (.bool false)], args := [d] }
  | _ => none }
def FnExactAruOfWrongFalsely : Prop := fnExactAruOfRow.holds Try.pinned (OpenSpec.ofChange fnExactAruOfWrong)

/- THE SECOND FORM. 'bulk': how many values and letters a reading holds, each counted each time it is reached (what is shared counts as often as it is met; a slice's spare places count too). A statement '..UptoSaid' is the law's where the arguments, and the package variables that the reading takes, are together of bulk at most 1048576: NARROWER than '..Said'. Prove '..Said' where nothing that the law and all that it calls make is longer than what came in: it says more and counts as full. Else prove '..UptoSaid'. A law counts once. -/
mutual
def uptoBulk {H : Type} : DataW H → Nat
  | .lit (.string bytes) => bytes.length + 1
  | .lit _ => 1
  | .nil => 1
  | .ptr d => uptoBulk d + 1
  | .slice elems spare => uptoBulkAll elems + uptoBulkAll spare + 1
  | .agg parts => uptoBulkAll parts + 1
  | .iface _ d => uptoBulk d + 1
  | .map entries => uptoBulkEntries entries + 1
  | .held _ => 1
def uptoBulkAll {H : Type} : List (DataW H) → Nat
  | [] => 0
  | d :: r => uptoBulk d + uptoBulkAll r
def uptoBulkEntries {H : Type} : List (Lit × DataW H) → Nat
  | [] => 0
  | x :: r => uptoBulkEntry x + uptoBulkEntries r
def uptoBulkEntry {H : Type} : Lit × DataW H → Nat
  | (.string bytes, d) => bytes.length + uptoBulk d + 1
  | (_, d) => uptoBulk d + 1
 end
def uptoSmall : (H : Type) → List (DataW H) → Bool := fun _ ds => decide (uptoBulkAll ds ≤ 1048576)
def OpenSpec.upto (s : _root_.Go.ChangeSpec) : _root_.Go.OpenSpec := { _root_.Go.OpenSpec.ofChange s with cond := some uptoSmall }

/-- 'laws.FnExactUnsealed', WHERE WHAT IT READS IS OF BULK AT MOST 1048576: true; the input reads as it did. -/
def fnExactUnsealedUptoRow : OpenClaim := { program := "ytlnmiafahjddhaa", sum := "99863afa3f70cac8bf61eaa49ea3b29eea329e6be9f2e2629811aa963e4afadc", func := "loop.example/g00183/laws.FnExactUnsealed", spec := "fnExactUnsealed", apart := false, narrowed := true }
def FnExactUnsealedUptoSaid : Prop := fnExactUnsealedUptoRow.holds Try.pinned (OpenSpec.upto fnExactUnsealedSpec)

/-- 'laws.FnExactChildren', WHERE WHAT IT READS IS OF BULK AT MOST 1048576: true; the input reads as it did. -/
def fnExactChildrenUptoRow : OpenClaim := { program := "ytlnmiafahjddhaa", sum := "99863afa3f70cac8bf61eaa49ea3b29eea329e6be9f2e2629811aa963e4afadc", func := "loop.example/g00183/laws.FnExactChildren", spec := "fnExactChildren", apart := false, narrowed := true }
def FnExactChildrenUptoSaid : Prop := fnExactChildrenUptoRow.holds Try.pinned (OpenSpec.upto fnExactChildrenSpec)

/-- 'laws.FnExactFrameOf', WHERE WHAT IT READS IS OF BULK AT MOST 1048576: true; the input reads as it did. -/
def fnExactFrameOfUptoRow : OpenClaim := { program := "ytlnmiafahjddhaa", sum := "99863afa3f70cac8bf61eaa49ea3b29eea329e6be9f2e2629811aa963e4afadc", func := "loop.example/g00183/laws.FnExactFrameOf", spec := "fnExactFrameOf", apart := false, narrowed := true }
def FnExactFrameOfUptoSaid : Prop := fnExactFrameOfUptoRow.holds Try.pinned (OpenSpec.upto fnExactFrameOfSpec)

/-- 'laws.FnExactReadShort', WHERE WHAT IT READS IS OF BULK AT MOST 1048576: true; the input reads as it did. -/
def fnExactReadShortUptoRow : OpenClaim := { program := "ytlnmiafahjddhaa", sum := "99863afa3f70cac8bf61eaa49ea3b29eea329e6be9f2e2629811aa963e4afadc", func := "loop.example/g00183/laws.FnExactReadShort", spec := "fnExactReadShort", apart := false, narrowed := true }
def FnExactReadShortUptoSaid : Prop := fnExactReadShortUptoRow.holds Try.pinned (OpenSpec.upto fnExactReadShortSpec)

/-- 'laws.FnExactItemText', WHERE WHAT IT READS IS OF BULK AT MOST 1048576: true; the input reads as it did. -/
def fnExactItemTextUptoRow : OpenClaim := { program := "ytlnmiafahjddhaa", sum := "99863afa3f70cac8bf61eaa49ea3b29eea329e6be9f2e2629811aa963e4afadc", func := "loop.example/g00183/laws.FnExactItemText", spec := "fnExactItemText", apart := false, narrowed := true }
def FnExactItemTextUptoSaid : Prop := fnExactItemTextUptoRow.holds Try.pinned (OpenSpec.upto fnExactItemTextSpec)

/-- 'laws.FnExactRingOk', WHERE WHAT IT READS IS OF BULK AT MOST 1048576: true; the input reads as it did. -/
def fnExactRingOkUptoRow : OpenClaim := { program := "ytlnmiafahjddhaa", sum := "99863afa3f70cac8bf61eaa49ea3b29eea329e6be9f2e2629811aa963e4afadc", func := "loop.example/g00183/laws.FnExactRingOk", spec := "fnExactRingOk", apart := false, narrowed := true }
def FnExactRingOkUptoSaid : Prop := fnExactRingOkUptoRow.holds Try.pinned (OpenSpec.upto fnExactRingOkSpec)

/-- 'laws.FnExactItemAt', WHERE WHAT IT READS IS OF BULK AT MOST 1048576: true; the input reads as it did. -/
def fnExactItemAtUptoRow : OpenClaim := { program := "ytlnmiafahjddhaa", sum := "99863afa3f70cac8bf61eaa49ea3b29eea329e6be9f2e2629811aa963e4afadc", func := "loop.example/g00183/laws.FnExactItemAt", spec := "fnExactItemAt", apart := false, narrowed := true }
def FnExactItemAtUptoSaid : Prop := fnExactItemAtUptoRow.holds Try.pinned (OpenSpec.upto fnExactItemAtSpec)

/-- 'laws.FnExactRoadsOk', WHERE WHAT IT READS IS OF BULK AT MOST 1048576: true; the input reads as it did. -/
def fnExactRoadsOkUptoRow : OpenClaim := { program := "ytlnmiafahjddhaa", sum := "99863afa3f70cac8bf61eaa49ea3b29eea329e6be9f2e2629811aa963e4afadc", func := "loop.example/g00183/laws.FnExactRoadsOk", spec := "fnExactRoadsOk", apart := false, narrowed := true }
def FnExactRoadsOkUptoSaid : Prop := fnExactRoadsOkUptoRow.holds Try.pinned (OpenSpec.upto fnExactRoadsOkSpec)

/-- 'laws.FnTurned', WHERE WHAT IT READS IS OF BULK AT MOST 1048576: true; the input reads as it did. -/
def fnTurnedUptoRow : OpenClaim := { program := "ytlnmiafahjddhaa", sum := "99863afa3f70cac8bf61eaa49ea3b29eea329e6be9f2e2629811aa963e4afadc", func := "loop.example/g00183/laws.FnTurned", spec := "fnTurned", apart := false, narrowed := true }
def FnTurnedUptoSaid : Prop := fnTurnedUptoRow.holds Try.pinned (OpenSpec.upto fnTurnedSpec)

/-- 'laws.FnExactTokenOk', WHERE WHAT IT READS IS OF BULK AT MOST 1048576: true; the input reads as it did. -/
def fnExactTokenOkUptoRow : OpenClaim := { program := "ytlnmiafahjddhaa", sum := "99863afa3f70cac8bf61eaa49ea3b29eea329e6be9f2e2629811aa963e4afadc", func := "loop.example/g00183/laws.FnExactTokenOk", spec := "fnExactTokenOk", apart := false, narrowed := true }
def FnExactTokenOkUptoSaid : Prop := fnExactTokenOkUptoRow.holds Try.pinned (OpenSpec.upto fnExactTokenOkSpec)

/-- 'laws.FnExactItemsOk', WHERE WHAT IT READS IS OF BULK AT MOST 1048576: true; the input reads as it did. -/
def fnExactItemsOkUptoRow : OpenClaim := { program := "ytlnmiafahjddhaa", sum := "99863afa3f70cac8bf61eaa49ea3b29eea329e6be9f2e2629811aa963e4afadc", func := "loop.example/g00183/laws.FnExactItemsOk", spec := "fnExactItemsOk", apart := false, narrowed := true }
def FnExactItemsOkUptoSaid : Prop := fnExactItemsOkUptoRow.holds Try.pinned (OpenSpec.upto fnExactItemsOkSpec)

/-- 'laws.FnExactAruOf', WHERE WHAT IT READS IS OF BULK AT MOST 1048576: true; the input reads as it did. -/
def fnExactAruOfUptoRow : OpenClaim := { program := "ytlnmiafahjddhaa", sum := "99863afa3f70cac8bf61eaa49ea3b29eea329e6be9f2e2629811aa963e4afadc", func := "loop.example/g00183/laws.FnExactAruOf", spec := "fnExactAruOf", apart := false, narrowed := true }
def FnExactAruOfUptoSaid : Prop := fnExactAruOfUptoRow.holds Try.pinned (OpenSpec.upto fnExactAruOfSpec)

end Rows
end Go.Proofs.Ytlnmiafahjddhaa
