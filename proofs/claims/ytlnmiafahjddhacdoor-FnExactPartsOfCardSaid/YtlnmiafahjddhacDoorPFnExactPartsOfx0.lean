-- Written by a program out of the translation, for this claim.
import Derived.Test.YtlnmiafahjddhacDoorProg
import Derived.WalkSpells
import Derived.Below
import Derived.Deep.Draws
import Derived.Deep.AppendLies
import Derived.Maps.AppendAt
import Derived.OwnWalk
import Derived.Laws.BytesArg
import Derived.Laws.MakeOwn
import Derived.Laws.OwnMore
import Derived.Deep.OwnRows
import Derived.Tactics
import Derived.Lib.ConvBytes
import Derived.Laws.Slices
import Derived.WalkKit
import Derived.KernelRfl
import Derived.RowKit3
import Derived.Deep.LoopGhost
import Derived.Deep.QuietTactic
import Derived.BigQuiet
import Derived.WideLaws
import Derived.Deep.DeepCutAuto
import Derived.Deep.CutBlock
import Derived.Deep.RegionHeld3
import Derived.Laws.Rows
import Derived.Lib.AppendStr
import Derived.ArgAppend
import Derived.Laws.IdiomCopy
import Derived.OrdersHeld
import Derived.Laws.BitsLemmas
import Derived.RowKit
import Derived.Test.YtlnmiafahjddhacDoorWXtra
import Derived.Test.YtlnmiafahjddhacDoorShelf
import Derived.Test.YtlnmiafahjddhacDoorWWords
import Derived.Test.YtlnmiafahjddhacDoorWLast
import Derived.Test.YtlnmiafahjddhacDoorWTab
import Derived.Test.YtlnmiafahjddhacDoorWFour
import Derived.Test.YtlnmiafahjddhacDoorWQPut
import Derived.Test.YtlnmiafahjddhacDoorWApart
import Derived.Test.YtlnmiafahjddhacDoorWArr
import Derived.Test.YtlnmiafahjddhacDoorWZeros
import Derived.Test.YtlnmiafahjddhacDoorWFoot
import Derived.Test.YtlnmiafahjddhacDoorWKept
import Derived.Test.YtlnmiafahjddhacDoorWShare
import Derived.Test.YtlnmiafahjddhacDoorWN
import Derived.Test.YtlnmiafahjddhacDoorWFootNe
import Derived.Test.YtlnmiafahjddhacDoorWAt
import Derived.Test.YtlnmiafahjddhacDoorWEqStruct
import Derived.Test.YtlnmiafahjddhacDoorWRepsOne
import Derived.Test.YtlnmiafahjddhacDoorWInv
import Derived.Test.YtlnmiafahjddhacDoorWInvWords
import Derived.Test.YtlnmiafahjddhacDoorWGuard
import Derived.Test.YtlnmiafahjddhacDoorWNEv
import Derived.Test.YtlnmiafahjddhacDoorWMore
namespace Go.Proofs.YtlnmiafahjddhacDoor.PFnExactPartsOf
open Go.RowKit Go.Proofs.YtlnmiafahjddhacDoorW.PrintWords Go.Proofs.YtlnmiafahjddhacDoorW.PrintLast Go.Proofs.YtlnmiafahjddhacDoorW.PrintMore
attribute [local go_sem] max2_int min2_int max_two min_two max_three min_three max_four min_four   -- for this text's walks alone
set_option linter.unusedVariables false
set_option linter.unusedSimpArgs false



def errW : Option Int → Value
  | none => .nilIface
  | some c => .iface 0 (.int .i64 c)
theorem errW_none : errW none = .nilIface := rfl
theorem errW_some (c : Int) : errW (some c) = .iface 0 (.int .i64 c) := rfl

theorem info5 : (Tryd.prog.info? 5).map (fun i => (i.zero, i.size, i.bytes)) = some (some (.int .u8 0), 1, 1) := by kernel_rfl
theorem info9 : (Tryd.prog.info? 9).map (fun i => (i.zero, i.size, i.bytes)) = some (some (.string ⟨#[]⟩), 1, 16) := by kernel_rfl
-- the values' own types

end Go.Proofs.YtlnmiafahjddhacDoor.PFnExactPartsOf
