/- The program's Normal answers as the reference's at every kind. Conditions: none. -/
import Derived.Test.YtjmjhpdoealpaaaPFnExactNormalx0
import Derived.Test.YtjmjhpdoealpaaaPFnExactNormalx1
import Derived.Test.YtjmjhpdoealpaaaPureAid
import Derived.Test.YtjmjhpdoealpaaaWMore
namespace Go.Proofs.Ytjmjhpdoealpaaa.Pure
open Go Go.RowKit Go.Proofs.Ytjmjhpdoealpaaa.PFnExactNormal Go.Proofs.YtjmjhpdoealpaaaW.PrintWords Go.Proofs.YtjmjhpdoealpaaaW.PrintLast Go.Proofs.Ytjmjhpdoealpaaa.Aid
set_option linter.unusedVariables false
set_option linter.unusedSimpArgs false
set_option maxRecDepth 100000
theorem normal_same (k : Nat) (a : Int) : impl_Normal.f k a = spec_Normal.f k a := by
  cases k with
  | zero => rfl
  | succ k => rfl
theorem FnExactNormal : laws_FnExactNormal.Pure := by
  intro a0 ha
  refine ⟨1, ?_⟩
  unfold laws_FnExactNormal.f
  have : ∃ r, spec_Normal.f 1 a0 = some r := by
    unfold spec_Normal.f
    split <;> simp only [spec_Normal.j0] <;> repeat' split
    all_goals exact ⟨_, rfl⟩
  obtain ⟨r, hr⟩ := this
  rw [normal_same, hr]
  simp only [Option.bind_some, if_true]

end Go.Proofs.Ytjmjhpdoealpaaa.Pure
