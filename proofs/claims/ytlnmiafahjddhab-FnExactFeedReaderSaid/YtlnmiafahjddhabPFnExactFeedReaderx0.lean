-- Written by a program out of the translation, for this claim.
import Derived.Test.YtlnmiafahjddhabProg
import Derived.Below
import Derived.Deep.Draws
import Derived.Deep.AppendLies
import Derived.Maps.AppendAt
import Derived.OwnWalk
import Derived.Laws.BytesArg
import Derived.Laws.MakeOwn
import Derived.Laws.OwnMore
import Derived.Deep.OwnRows
import Derived.Tactics
import Derived.Lib.ConvBytes
import Derived.Laws.Slices
import Derived.WalkKit
import Derived.KernelRfl
import Derived.RowKit3
import Derived.Deep.LoopGhost
import Derived.Deep.QuietTactic
import Derived.BigQuiet
import Derived.WideLaws
import Derived.Deep.DeepCutAuto
import Derived.Deep.CutBlock
import Derived.Deep.RegionHeld3
import Derived.Laws.Rows
import Derived.Lib.AppendStr
import Derived.ArgAppend
import Derived.Laws.IdiomCopy
import Derived.OrdersHeld
import Derived.Laws.BitsLemmas
import Derived.RowKit
import Derived.Test.YtlnmiafahjddhabWWords
import Derived.Test.YtlnmiafahjddhabWLast
import Derived.Test.YtlnmiafahjddhabWTab
import Derived.Test.YtlnmiafahjddhabWFour
import Derived.Test.YtlnmiafahjddhabWQPut
import Derived.Test.YtlnmiafahjddhabWApart
import Derived.Test.YtlnmiafahjddhabWArr
import Derived.Test.YtlnmiafahjddhabWZeros
import Derived.Test.YtlnmiafahjddhabWFoot
import Derived.Test.YtlnmiafahjddhabWKept
import Derived.Test.YtlnmiafahjddhabWShare
import Derived.Test.YtlnmiafahjddhabWN
import Derived.Test.YtlnmiafahjddhabWFootNe
import Derived.Test.YtlnmiafahjddhabWAt
import Derived.Test.YtlnmiafahjddhabWEqStruct
import Derived.Test.YtlnmiafahjddhabWRepsOne
import Derived.Test.YtlnmiafahjddhabWInv
import Derived.Test.YtlnmiafahjddhabWInvWords
import Derived.Test.YtlnmiafahjddhabWGuard
import Derived.Test.YtlnmiafahjddhabWNEv
import Derived.Test.YtlnmiafahjddhabWMore
namespace Go.Proofs.Ytlnmiafahjddhab.PFnExactFeedReader
open Go.RowKit Go.Proofs.YtlnmiafahjddhabW.PrintWords Go.Proofs.YtlnmiafahjddhabW.PrintLast Go.Proofs.YtlnmiafahjddhabW.PrintMore
attribute [local go_sem] max2_int min2_int max_two min_two max_three min_three max_four min_four   -- for this text's walks alone
set_option linter.unusedVariables false
set_option linter.unusedSimpArgs false



def errW : Option Int → Value
  | none => .nilIface
  | some c => .iface 0 (.int .i64 c)
theorem errW_none : errW none = .nilIface := rfl
theorem errW_some (c : Int) : errW (some c) = .iface 0 (.int .i64 c) := rfl

theorem info5 : (Try.prog.info? 5).map (fun i => (i.zero, i.size, i.bytes)) = some (some (.int .u8 0), 1, 1) := by kernel_rfl
theorem info9 : (Try.prog.info? 9).map (fun i => (i.zero, i.size, i.bytes)) = some (some (.string ⟨#[]⟩), 1, 16) := by kernel_rfl
-- the values' own types

end Go.Proofs.Ytlnmiafahjddhab.PFnExactFeedReader
