/- Lean forms and contracts of the functions that the law FnNumbered reaches, laid by a program; those of functions that it does not take are hand-made. No condition is added. -/
import Derived.Test.YtegkhdobjcdfnafProg
import Derived.Below
import Derived.Deep.Draws
import Derived.Deep.AppendLies
import Derived.Maps.AppendAt
import Derived.OwnWalk
import Derived.Laws.BytesArg
import Derived.Laws.MakeOwn
import Derived.Laws.OwnMore
import Derived.Deep.OwnRows
import Derived.Tactics
import Derived.Lib.ConvBytes
import Derived.Laws.Slices
import Derived.WalkKit
import Derived.KernelRfl
import Derived.RowKit3
import Derived.Deep.LoopGhost
import Derived.Deep.QuietTactic
import Derived.BigQuiet
import Derived.WideLaws
import Derived.Deep.DeepCutAuto
import Derived.Deep.CutBlock
import Derived.Deep.RegionHeld3
import Derived.Laws.Rows
import Derived.Lib.AppendStr
import Derived.ArgAppend
import Derived.Laws.IdiomCopy
import Derived.OrdersHeld
import Derived.Laws.BitsLemmas
import Derived.RowKit
import Derived.Laws.RangeAny
import Derived.Laws.RangeString
import Derived.Test.YtegkhdobjcdfnafWWords
import Derived.Test.YtegkhdobjcdfnafWLast
import Derived.Test.YtegkhdobjcdfnafWTab
import Derived.Test.YtegkhdobjcdfnafWFour
import Derived.Test.YtegkhdobjcdfnafWQPut
import Derived.Test.YtegkhdobjcdfnafWApart
import Derived.Test.YtegkhdobjcdfnafWArr
import Derived.Test.YtegkhdobjcdfnafWZeros
import Derived.Test.YtegkhdobjcdfnafWFoot
import Derived.Test.YtegkhdobjcdfnafWKept
import Derived.Test.YtegkhdobjcdfnafWShare
import Derived.Test.YtegkhdobjcdfnafWN
import Derived.Test.YtegkhdobjcdfnafWFootNe
import Derived.Test.YtegkhdobjcdfnafWAt
import Derived.Test.YtegkhdobjcdfnafWEqStruct
import Derived.Test.YtegkhdobjcdfnafWRepsOne
import Derived.Test.YtegkhdobjcdfnafWInv
import Derived.Test.YtegkhdobjcdfnafWInvWords
import Derived.Test.YtegkhdobjcdfnafWGuard
import Derived.Test.YtegkhdobjcdfnafWNEv
import Derived.Test.YtegkhdobjcdfnafWMore
namespace Go.Proofs.Ytegkhdobjcdfnaf.PFnNumbered
open Go.RowKit Go.Proofs.YtegkhdobjcdfnafW.PrintWords Go.Proofs.YtegkhdobjcdfnafW.PrintLast Go.Proofs.YtegkhdobjcdfnafW.PrintMore
attribute [local go_sem] max2_int min2_int max_two min_two max_three min_three max_four min_four   -- for this text's walks alone
set_option linter.unusedVariables false
set_option linter.unusedSimpArgs false



def errW : Option Int → Value
  | none => .nilIface
  | some c => .iface 0 (.int .i64 c)
theorem errW_none : errW none = .nilIface := rfl
theorem errW_some (c : Int) : errW (some c) = .iface 0 (.int .i64 c) := rfl

theorem info5 : (Try.prog.info? 5).map (fun i => (i.zero, i.size, i.bytes)) = some (some (.int .u8 0), 1, 1) := by kernel_rfl
theorem info9 : (Try.prog.info? 9).map (fun i => (i.zero, i.size, i.bytes)) = some (some (.string ⟨#[]⟩), 1, 16) := by kernel_rfl
-- the values' own types

end Go.Proofs.Ytegkhdobjcdfnaf.PFnNumbered
