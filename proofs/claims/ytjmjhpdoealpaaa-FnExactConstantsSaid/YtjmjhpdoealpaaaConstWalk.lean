/- FnExactConstants returns true in every world. Conditions: none. -/
import Derived.Test.YtjmjhpdoealpaaaRows
import Derived.Test.YtjmjhpdoealpaaaProg
import Derived.Tactics
import Derived.WalkKit
import Derived.KernelRfl
namespace Go.Proofs.Ytjmjhpdoealpaaa.Const
open Go.RowKit
set_option maxHeartbeats 8000000 in
set_option maxRecDepth 1000000 in
theorem walk (w : World) : Calls Try.prog 3 #[] w fun e w' => e = .returned (.bool true) ∧ w = w' := by
  go_enter Try.func3, Try.ntmps3
  go_wp2
  go_ret
  exact ⟨rfl, rfl⟩
end Go.Proofs.Ytjmjhpdoealpaaa.Const
