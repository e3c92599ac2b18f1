/- Lean forms and contracts of the functions that the law FnExactMakeNumber reaches, laid by a program; those of functions that it does not take are hand-made. No condition is added. -/
import Derived.Test.YtegkhdobjcdfnabProg
import Derived.Below
import Derived.Deep.Draws
import Derived.Deep.AppendLies
import Derived.Maps.AppendAt
import Derived.OwnWalk
import Derived.Laws.BytesArg
import Derived.Laws.MakeOwn
import Derived.Laws.OwnMore
import Derived.Deep.OwnRows
import Derived.Tactics
import Derived.Lib.ConvBytes
import Derived.Laws.Slices
import Derived.WalkKit
import Derived.KernelRfl
import Derived.RowKit3
import Derived.Deep.LoopGhost
import Derived.Deep.QuietTactic
import Derived.BigQuiet
import Derived.WideLaws
import Derived.Deep.DeepCutAuto
import Derived.Deep.CutBlock
import Derived.Deep.RegionHeld3
import Derived.Laws.Rows
import Derived.Lib.AppendStr
import Derived.ArgAppend
import Derived.Laws.IdiomCopy
import Derived.OrdersHeld
import Derived.Laws.BitsLemmas
import Derived.RowKit
import Derived.Laws.RangeAny
import Derived.Laws.RangeString
import Derived.Test.YtegkhdobjcdfnabWWords
import Derived.Test.YtegkhdobjcdfnabWLast
import Derived.Test.YtegkhdobjcdfnabWTab
import Derived.Test.YtegkhdobjcdfnabWFour
import Derived.Test.YtegkhdobjcdfnabWQPut
import Derived.Test.YtegkhdobjcdfnabWApart
import Derived.Test.YtegkhdobjcdfnabWArr
import Derived.Test.YtegkhdobjcdfnabWZeros
import Derived.Test.YtegkhdobjcdfnabWFoot
import Derived.Test.YtegkhdobjcdfnabWKept
import Derived.Test.YtegkhdobjcdfnabWShare
import Derived.Test.YtegkhdobjcdfnabWN
import Derived.Test.YtegkhdobjcdfnabWFootNe
import Derived.Test.YtegkhdobjcdfnabWAt
import Derived.Test.YtegkhdobjcdfnabWEqStruct
import Derived.Test.YtegkhdobjcdfnabWRepsOne
import Derived.Test.YtegkhdobjcdfnabWInv
import Derived.Test.YtegkhdobjcdfnabWInvWords
import Derived.Test.YtegkhdobjcdfnabWGuard
import Derived.Test.YtegkhdobjcdfnabWNEv
import Derived.Test.YtegkhdobjcdfnabWMore
namespace Go.Proofs.Ytegkhdobjcdfnab.PFnExactMakeNumber
open Go.RowKit Go.Proofs.YtegkhdobjcdfnabW.PrintWords Go.Proofs.YtegkhdobjcdfnabW.PrintLast Go.Proofs.YtegkhdobjcdfnabW.PrintMore
attribute [local go_sem] max2_int min2_int max_two min_two max_three min_three max_four min_four   -- for this text's walks alone
set_option linter.unusedVariables false
set_option linter.unusedSimpArgs false



def errW : Option Int → Value
  | none => .nilIface
  | some c => .iface 0 (.int .i64 c)
theorem errW_none : errW none = .nilIface := rfl
theorem errW_some (c : Int) : errW (some c) = .iface 0 (.int .i64 c) := rfl

theorem info5 : (Try.prog.info? 5).map (fun i => (i.zero, i.size, i.bytes)) = some (some (.int .u8 0), 1, 1) := by kernel_rfl
-- the values' own types

end Go.Proofs.Ytegkhdobjcdfnab.PFnExactMakeNumber
