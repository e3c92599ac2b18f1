/- Lean forms and contracts of the functions that the law FnExactDateOf reaches, laid by a program; those of functions that it does not take are hand-made. No condition is added. -/
import Derived.Test.YtegkhdobjcdfnaaDoorProg
import Derived.Below
import Derived.Deep.Draws
import Derived.Deep.AppendLies
import Derived.Maps.AppendAt
import Derived.OwnWalk
import Derived.Laws.BytesArg
import Derived.Laws.MakeOwn
import Derived.Laws.OwnMore
import Derived.Deep.OwnRows
import Derived.Tactics
import Derived.Lib.ConvBytes
import Derived.Laws.Slices
import Derived.WalkKit
import Derived.KernelRfl
import Derived.RowKit3
import Derived.Deep.LoopGhost
import Derived.Deep.QuietTactic
import Derived.BigQuiet
import Derived.WideLaws
import Derived.Deep.DeepCutAuto
import Derived.Deep.CutBlock
import Derived.Deep.RegionHeld3
import Derived.Laws.Rows
import Derived.Lib.AppendStr
import Derived.ArgAppend
import Derived.Laws.IdiomCopy
import Derived.OrdersHeld
import Derived.Laws.BitsLemmas
import Derived.RowKit
import Derived.WalkMore
import Derived.Laws.RangeAny
import Derived.Laws.RangeString
import Derived.Test.YtegkhdobjcdfnaaDoorWWords
import Derived.Test.YtegkhdobjcdfnaaDoorWLast
import Derived.Test.YtegkhdobjcdfnaaDoorWTab
import Derived.Test.YtegkhdobjcdfnaaDoorWFour
import Derived.Test.YtegkhdobjcdfnaaDoorWQPut
import Derived.Test.YtegkhdobjcdfnaaDoorWApart
import Derived.Test.YtegkhdobjcdfnaaDoorWArr
import Derived.Test.YtegkhdobjcdfnaaDoorWZeros
import Derived.Test.YtegkhdobjcdfnaaDoorWFoot
import Derived.Test.YtegkhdobjcdfnaaDoorWKept
import Derived.Test.YtegkhdobjcdfnaaDoorWShare
import Derived.Test.YtegkhdobjcdfnaaDoorWN
import Derived.Test.YtegkhdobjcdfnaaDoorWFootNe
import Derived.Test.YtegkhdobjcdfnaaDoorWAt
import Derived.Test.YtegkhdobjcdfnaaDoorWEqStruct
import Derived.Test.YtegkhdobjcdfnaaDoorWRepsOne
import Derived.Test.YtegkhdobjcdfnaaDoorWInv
import Derived.Test.YtegkhdobjcdfnaaDoorWInvWords
import Derived.Test.YtegkhdobjcdfnaaDoorWGuard
import Derived.Test.YtegkhdobjcdfnaaDoorWNEv
import Derived.Test.YtegkhdobjcdfnaaDoorWMore
namespace Go.Proofs.YtegkhdobjcdfnaaDoor.PFnExactDateOf
open Go.RowKit Go.Proofs.YtegkhdobjcdfnaaDoorW.PrintWords Go.Proofs.YtegkhdobjcdfnaaDoorW.PrintLast Go.Proofs.YtegkhdobjcdfnaaDoorW.PrintMore
attribute [local go_sem] max2_int min2_int max_two min_two max_three min_three max_four min_four   -- for this text's walks alone
set_option linter.unusedVariables false
set_option linter.unusedSimpArgs false



def errW : Option Int → Value
  | none => .nilIface
  | some c => .iface 0 (.int .i64 c)
theorem errW_none : errW none = .nilIface := rfl
theorem errW_some (c : Int) : errW (some c) = .iface 0 (.int .i64 c) := rfl

-- the values' own types

end Go.Proofs.YtegkhdobjcdfnaaDoor.PFnExactDateOf
