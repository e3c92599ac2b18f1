/- Lean forms and contracts of the functions that the law FnExactAccountNumber reaches, laid by a program; those of functions that it does not take are hand-made. No condition is added. -/
import Derived.Test.YtjmjhpdoealpaaaProg
import Derived.Below
import Derived.Deep.Draws
import Derived.Deep.AppendLies
import Derived.Maps.AppendAt
import Derived.OwnWalk
import Derived.Laws.BytesArg
import Derived.Laws.MakeOwn
import Derived.Laws.OwnMore
import Derived.Deep.OwnRows
import Derived.Tactics
import Derived.Lib.ConvBytes
import Derived.Laws.Slices
import Derived.WalkKit
import Derived.KernelRfl
import Derived.RowKit3
import Derived.Deep.LoopGhost
import Derived.Deep.QuietTactic
import Derived.BigQuiet
import Derived.WideLaws
import Derived.Deep.DeepCutAuto
import Derived.Deep.CutBlock
import Derived.Deep.RegionHeld3
import Derived.Laws.Rows
import Derived.Lib.AppendStr
import Derived.ArgAppend
import Derived.Laws.IdiomCopy
import Derived.OrdersHeld
import Derived.Laws.BitsLemmas
import Derived.RowKit
import Derived.Laws.RangeAny
import Derived.Laws.RangeString
import Derived.Test.YtjmjhpdoealpaaaWWords
import Derived.Test.YtjmjhpdoealpaaaWLast
import Derived.Test.YtjmjhpdoealpaaaWTab
import Derived.Test.YtjmjhpdoealpaaaWFour
import Derived.Test.YtjmjhpdoealpaaaWQPut
import Derived.Test.YtjmjhpdoealpaaaWApart
import Derived.Test.YtjmjhpdoealpaaaWArr
import Derived.Test.YtjmjhpdoealpaaaWZeros
import Derived.Test.YtjmjhpdoealpaaaWFoot
import Derived.Test.YtjmjhpdoealpaaaWKept
import Derived.Test.YtjmjhpdoealpaaaWShare
import Derived.Test.YtjmjhpdoealpaaaWN
import Derived.Test.YtjmjhpdoealpaaaWFootNe
import Derived.Test.YtjmjhpdoealpaaaWAt
import Derived.Test.YtjmjhpdoealpaaaWEqStruct
import Derived.Test.YtjmjhpdoealpaaaWRepsOne
import Derived.Test.YtjmjhpdoealpaaaWInv
import Derived.Test.YtjmjhpdoealpaaaWInvWords
import Derived.Test.YtjmjhpdoealpaaaWGuard
import Derived.Test.YtjmjhpdoealpaaaWNEv
import Derived.Test.YtjmjhpdoealpaaaWMore
namespace Go.Proofs.Ytjmjhpdoealpaaa.PFnExactAccountNumber
open Go.RowKit Go.Proofs.YtjmjhpdoealpaaaW.PrintWords Go.Proofs.YtjmjhpdoealpaaaW.PrintLast Go.Proofs.YtjmjhpdoealpaaaW.PrintMore
attribute [local go_sem] max2_int min2_int max_two min_two max_three min_three max_four min_four   -- for this text's walks alone
set_option linter.unusedVariables false
set_option linter.unusedSimpArgs false



def errW : Option Int → Value
  | none => .nilIface
  | some c => .iface 0 (.int .i64 c)
theorem errW_none : errW none = .nilIface := rfl
theorem errW_some (c : Int) : errW (some c) = .iface 0 (.int .i64 c) := rfl

-- the values' own types

end Go.Proofs.Ytjmjhpdoealpaaa.PFnExactAccountNumber
