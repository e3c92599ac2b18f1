/- Lean forms and contracts of the functions that the law FnExactCountWork reaches, laid by a program; those of functions that it does not take are hand-made. No condition is added. -/
import Derived.Test.YthenbichjdmdkaaProg
import Derived.Below
import Derived.Deep.Draws
import Derived.Deep.AppendLies
import Derived.Maps.AppendAt
import Derived.OwnWalk
import Derived.Laws.BytesArg
import Derived.Laws.MakeOwn
import Derived.Laws.OwnMore
import Derived.Deep.OwnRows
import Derived.Tactics
import Derived.Lib.ConvBytes
import Derived.Laws.Slices
import Derived.WalkKit
import Derived.KernelRfl
import Derived.RowKit3
import Derived.Deep.LoopGhost
import Derived.Deep.QuietTactic
import Derived.BigQuiet
import Derived.WideLaws
import Derived.Deep.DeepCutAuto
import Derived.Deep.CutBlock
import Derived.Deep.RegionHeld3
import Derived.Laws.Rows
import Derived.Lib.AppendStr
import Derived.ArgAppend
import Derived.Laws.IdiomCopy
import Derived.OrdersHeld
import Derived.Laws.BitsLemmas
import Derived.RowKit
import Derived.RangeFuncNested
import Derived.RangeFuncBound
import Derived.RangeFuncCalls
import Derived.RangeFuncLeaves
import Derived.Shelf.Abstract
import Derived.Shelf.RegionOpen
import Derived.OwnWalkIn
import Derived.TacticsInMore
import Derived.LoopNIn
import Derived.LoopIn
import Derived.Lib.Hide
import Derived.RegionTactic
import Derived.ScopeJumps
import Derived.ChangeAlike
import Derived.WalkMore
import Derived.Laws.RangeAny
import Derived.Laws.RangeString
import Derived.Test.YthenbichjdmdkaaWWords
import Derived.Test.YthenbichjdmdkaaWLast
import Derived.Test.YthenbichjdmdkaaWTab
import Derived.Test.YthenbichjdmdkaaWFour
import Derived.Test.YthenbichjdmdkaaWQPut
import Derived.Test.YthenbichjdmdkaaWApart
import Derived.Test.YthenbichjdmdkaaWArr
import Derived.Test.YthenbichjdmdkaaWZeros
import Derived.Test.YthenbichjdmdkaaWFoot
import Derived.Test.YthenbichjdmdkaaWKept
import Derived.Test.YthenbichjdmdkaaWShare
import Derived.Test.YthenbichjdmdkaaWN
import Derived.Test.YthenbichjdmdkaaWFootNe
import Derived.Test.YthenbichjdmdkaaWAt
import Derived.Test.YthenbichjdmdkaaWEqStruct
import Derived.Test.YthenbichjdmdkaaWRepsOne
import Derived.Test.YthenbichjdmdkaaWInv
import Derived.Test.YthenbichjdmdkaaWInvWords
import Derived.Test.YthenbichjdmdkaaWGuard
import Derived.Test.YthenbichjdmdkaaWNEv
import Derived.Test.YthenbichjdmdkaaWMore
namespace Go.Proofs.Ythenbichjdmdkaa.PFnExactCountWork
open Go.RowKit Go.Proofs.YthenbichjdmdkaaW.PrintWords Go.Proofs.YthenbichjdmdkaaW.PrintLast Go.Proofs.YthenbichjdmdkaaW.PrintMore
attribute [local go_sem] max2_int min2_int max_two min_two max_three min_three max_four min_four   -- for this text's walks alone
set_option linter.unusedVariables false
set_option linter.unusedSimpArgs false



def errW : Option Int → Value
  | none => .nilIface
  | some c => .iface 0 (.int .i64 c)
theorem errW_none : errW none = .nilIface := rfl
theorem errW_some (c : Int) : errW (some c) = .iface 0 (.int .i64 c) := rfl

theorem info3 : (Try.prog.info? 3).map (fun i => (i.zero, i.size, i.bytes)) = some (some (.int .i64 0), 1, 8) := by kernel_rfl
-- the values' own types

end Go.Proofs.Ythenbichjdmdkaa.PFnExactCountWork
