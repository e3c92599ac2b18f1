/- Lean forms and contracts of the functions that the law FnDatesBack reaches, laid by a program; those of functions that it does not take are hand-made. No condition is added. -/
import Derived.Test.YteeanacmhclnoaaDoorProg
import Derived.Below
import Derived.Deep.Draws
import Derived.Deep.AppendLies
import Derived.Maps.AppendAt
import Derived.OwnWalk
import Derived.Laws.BytesArg
import Derived.Laws.MakeOwn
import Derived.Laws.OwnMore
import Derived.Deep.OwnRows
import Derived.Tactics
import Derived.Lib.ConvBytes
import Derived.Laws.Slices
import Derived.WalkKit
import Derived.KernelRfl
import Derived.RowKit3
import Derived.Deep.LoopGhost
import Derived.Deep.QuietTactic
import Derived.BigQuiet
import Derived.WideLaws
import Derived.Deep.DeepCutAuto
import Derived.Deep.CutBlock
import Derived.Deep.RegionHeld3
import Derived.Laws.Rows
import Derived.Lib.AppendStr
import Derived.ArgAppend
import Derived.Laws.IdiomCopy
import Derived.OrdersHeld
import Derived.Laws.BitsLemmas
import Derived.RowKit
import Derived.WalkMore
import Derived.Laws.RangeAny
import Derived.Laws.RangeString
import Derived.Test.YteeanacmhclnoaaDoorWWords
import Derived.Test.YteeanacmhclnoaaDoorWLast
import Derived.Test.YteeanacmhclnoaaDoorWTab
import Derived.Test.YteeanacmhclnoaaDoorWFour
import Derived.Test.YteeanacmhclnoaaDoorWQPut
import Derived.Test.YteeanacmhclnoaaDoorWApart
import Derived.Test.YteeanacmhclnoaaDoorWArr
import Derived.Test.YteeanacmhclnoaaDoorWZeros
import Derived.Test.YteeanacmhclnoaaDoorWFoot
import Derived.Test.YteeanacmhclnoaaDoorWKept
import Derived.Test.YteeanacmhclnoaaDoorWShare
import Derived.Test.YteeanacmhclnoaaDoorWN
import Derived.Test.YteeanacmhclnoaaDoorWFootNe
import Derived.Test.YteeanacmhclnoaaDoorWAt
import Derived.Test.YteeanacmhclnoaaDoorWEqStruct
import Derived.Test.YteeanacmhclnoaaDoorWRepsOne
import Derived.Test.YteeanacmhclnoaaDoorWInv
import Derived.Test.YteeanacmhclnoaaDoorWInvWords
import Derived.Test.YteeanacmhclnoaaDoorWGuard
import Derived.Test.YteeanacmhclnoaaDoorWNEv
import Derived.Test.YteeanacmhclnoaaDoorWMore
namespace Go.Proofs.YteeanacmhclnoaaDoor.PFnDatesBack
open Go.RowKit Go.Proofs.YteeanacmhclnoaaDoorW.PrintWords Go.Proofs.YteeanacmhclnoaaDoorW.PrintLast Go.Proofs.YteeanacmhclnoaaDoorW.PrintMore
attribute [local go_sem] max2_int min2_int max_two min_two max_three min_three max_four min_four   -- for this text's walks alone
set_option linter.unusedVariables false
set_option linter.unusedSimpArgs false



def errW : Option Int → Value
  | none => .nilIface
  | some c => .iface 0 (.int .i64 c)
theorem errW_none : errW none = .nilIface := rfl
theorem errW_some (c : Int) : errW (some c) = .iface 0 (.int .i64 c) := rfl

theorem info3 : (Tryd.prog.info? 3).map (fun i => (i.zero, i.size, i.bytes)) = some (some (.int .i64 0), 1, 8) := by kernel_rfl
-- the values' own types

end Go.Proofs.YteeanacmhclnoaaDoor.PFnDatesBack
