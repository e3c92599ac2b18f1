/- The program's Weekday answers as the reference's at every day. Conditions: none. -/
import Derived.Test.YtjmjhpdoealpaaaPFnExactWeekdayx0
import Derived.Test.YtjmjhpdoealpaaaPFnExactWeekdayx1
import Derived.Test.YtjmjhpdoealpaaaPureAid
import Derived.Test.YtjmjhpdoealpaaaWMore
namespace Go.Proofs.Ytjmjhpdoealpaaa.Pure
open Go Go.RowKit Go.Proofs.Ytjmjhpdoealpaaa.PFnExactWeekday Go.Proofs.YtjmjhpdoealpaaaW.PrintWords Go.Proofs.YtjmjhpdoealpaaaW.PrintLast Go.Proofs.Ytjmjhpdoealpaaa.Aid
set_option linter.unusedVariables false
set_option linter.unusedSimpArgs false
set_option maxRecDepth 100000
theorem FnExactWeekday : laws_FnExactWeekday.Pure := by
  intro a0 ha
  unfold laws_FnExactWeekday.f
  have h : impl_Weekday.f a0 = spec_Weekday.f a0 := rfl
  have : ∃ r, spec_Weekday.f a0 = some r := by
    unfold spec_Weekday.f spec_l2Day.f spec_l1In.f
    split <;> simp only [Option.bind_some] <;> split <;> exact ⟨_, rfl⟩
  obtain ⟨r, hr⟩ := this
  rw [h, hr]
  simp only [Option.bind_some, if_true]

end Go.Proofs.Ytjmjhpdoealpaaa.Pure
