-- Written by a program out of the translation, for this claim.
import Derived.Test.YtlnmiafahjddhaaProg
import Derived.Below
import Derived.Deep.Draws
import Derived.Deep.AppendLies
import Derived.Maps.AppendAt
import Derived.OwnWalk
import Derived.Laws.BytesArg
import Derived.Laws.MakeOwn
import Derived.Laws.OwnMore
import Derived.Deep.OwnRows
import Derived.Tactics
import Derived.Lib.ConvBytes
import Derived.Laws.Slices
import Derived.WalkKit
import Derived.KernelRfl
import Derived.RowKit3
import Derived.Deep.LoopGhost
import Derived.Deep.QuietTactic
import Derived.BigQuiet
import Derived.WideLaws
import Derived.Deep.DeepCutAuto
import Derived.Deep.CutBlock
import Derived.Deep.RegionHeld3
import Derived.Laws.Rows
import Derived.Lib.AppendStr
import Derived.ArgAppend
import Derived.Laws.IdiomCopy
import Derived.OrdersHeld
import Derived.Laws.BitsLemmas
import Derived.RowKit
import Derived.Test.YtlnmiafahjddhaaWWords
import Derived.Test.YtlnmiafahjddhaaWLast
import Derived.Test.YtlnmiafahjddhaaWTab
import Derived.Test.YtlnmiafahjddhaaWFour
import Derived.Test.YtlnmiafahjddhaaWQPut
import Derived.Test.YtlnmiafahjddhaaWApart
import Derived.Test.YtlnmiafahjddhaaWArr
import Derived.Test.YtlnmiafahjddhaaWZeros
import Derived.Test.YtlnmiafahjddhaaWFoot
import Derived.Test.YtlnmiafahjddhaaWKept
import Derived.Test.YtlnmiafahjddhaaWShare
import Derived.Test.YtlnmiafahjddhaaWN
import Derived.Test.YtlnmiafahjddhaaWFootNe
import Derived.Test.YtlnmiafahjddhaaWAt
import Derived.Test.YtlnmiafahjddhaaWEqStruct
import Derived.Test.YtlnmiafahjddhaaWRepsOne
import Derived.Test.YtlnmiafahjddhaaWInv
import Derived.Test.YtlnmiafahjddhaaWInvWords
import Derived.Test.YtlnmiafahjddhaaWGuard
import Derived.Test.YtlnmiafahjddhaaWNEv
import Derived.Test.YtlnmiafahjddhaaWMore
namespace Go.Proofs.Ytlnmiafahjddhaa.PFnExactItemText
open Go.RowKit Go.Proofs.YtlnmiafahjddhaaW.PrintWords Go.Proofs.YtlnmiafahjddhaaW.PrintLast Go.Proofs.YtlnmiafahjddhaaW.PrintMore
attribute [local go_sem] max2_int min2_int max_two min_two max_three min_three max_four min_four   -- for this text's walks alone
set_option linter.unusedVariables false
set_option linter.unusedSimpArgs false



def errW : Option Int → Value
  | none => .nilIface
  | some c => .iface 0 (.int .i64 c)
theorem errW_none : errW none = .nilIface := rfl
theorem errW_some (c : Int) : errW (some c) = .iface 0 (.int .i64 c) := rfl

theorem info3 : (Try.prog.info? 3).map (fun i => (i.zero, i.size, i.bytes)) = some (some (.int .i64 0), 1, 8) := by kernel_rfl
theorem info5 : (Try.prog.info? 5).map (fun i => (i.zero, i.size, i.bytes)) = some (some (.int .u8 0), 1, 1) := by kernel_rfl
-- the values' own types

end Go.Proofs.Ytlnmiafahjddhaa.PFnExactItemText
