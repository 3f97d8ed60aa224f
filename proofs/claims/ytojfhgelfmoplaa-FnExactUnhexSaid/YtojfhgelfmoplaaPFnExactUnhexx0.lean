-- Written by a program out of the translation, for this claim.
import Derived.Test.YtojfhgelfmoplaaProg
import Derived.WalkSpells
import Derived.Below
import Derived.Deep.Draws
import Derived.Deep.AppendLies
import Derived.Maps.AppendAt
import Derived.OwnWalk
import Derived.Laws.BytesArg
import Derived.Laws.MakeOwn
import Derived.Laws.OwnMore
import Derived.Deep.OwnRows
import Derived.Tactics
import Derived.Lib.ConvBytes
import Derived.Laws.Slices
import Derived.WalkKit
import Derived.KernelRfl
import Derived.RowKit3
import Derived.Deep.LoopGhost
import Derived.Deep.QuietTactic
import Derived.BigQuiet
import Derived.WideLaws
import Derived.Deep.DeepCutAuto
import Derived.Deep.CutBlock
import Derived.Deep.RegionHeld3
import Derived.Laws.Rows
import Derived.Lib.AppendStr
import Derived.ArgAppend
import Derived.Laws.IdiomCopy
import Derived.OrdersHeld
import Derived.Laws.BitsLemmas
import Derived.RowKit
import Derived.Test.YtojfhgelfmoplaaWXtra
import Derived.Test.YtojfhgelfmoplaaShelf
import Derived.Test.YtojfhgelfmoplaaWWords
import Derived.Test.YtojfhgelfmoplaaWLast
import Derived.Test.YtojfhgelfmoplaaWTab
import Derived.Test.YtojfhgelfmoplaaWFour
import Derived.Test.YtojfhgelfmoplaaWQPut
import Derived.Test.YtojfhgelfmoplaaWApart
import Derived.Test.YtojfhgelfmoplaaWArr
import Derived.Test.YtojfhgelfmoplaaWZeros
import Derived.Test.YtojfhgelfmoplaaWFoot
import Derived.Test.YtojfhgelfmoplaaWKept
import Derived.Test.YtojfhgelfmoplaaWShare
import Derived.Test.YtojfhgelfmoplaaWN
import Derived.Test.YtojfhgelfmoplaaWFootNe
import Derived.Test.YtojfhgelfmoplaaWAt
import Derived.Test.YtojfhgelfmoplaaWEqStruct
import Derived.Test.YtojfhgelfmoplaaWRepsOne
import Derived.Test.YtojfhgelfmoplaaWInv
import Derived.Test.YtojfhgelfmoplaaWInvWords
import Derived.Test.YtojfhgelfmoplaaWGuard
import Derived.Test.YtojfhgelfmoplaaWNEv
import Derived.Test.YtojfhgelfmoplaaWMore
namespace Go.Proofs.Ytojfhgelfmoplaa.PFnExactUnhex
open Go.RowKit Go.Proofs.YtojfhgelfmoplaaW.PrintWords Go.Proofs.YtojfhgelfmoplaaW.PrintLast Go.Proofs.YtojfhgelfmoplaaW.PrintMore
attribute [local go_sem] max2_int min2_int max_two min_two max_three min_three max_four min_four   -- for this text's walks alone
set_option linter.unusedVariables false
set_option linter.unusedSimpArgs false



def errW : Option Int → Value
  | none => .nilIface
  | some c => .iface 0 (.int .i64 c)
theorem errW_none : errW none = .nilIface := rfl
theorem errW_some (c : Int) : errW (some c) = .iface 0 (.int .i64 c) := rfl

theorem info5 : (Try.prog.info? 5).map (fun i => (i.zero, i.size, i.bytes)) = some (some (.int .u8 0), 1, 1) := by kernel_rfl
-- the values' own types

end Go.Proofs.Ytojfhgelfmoplaa.PFnExactUnhex
