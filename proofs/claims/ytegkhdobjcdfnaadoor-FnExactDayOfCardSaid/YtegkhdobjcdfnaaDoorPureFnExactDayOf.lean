/- The program's DayOf answers as the reference's at every date. Conditions: none. -/
import Derived.Test.YtegkhdobjcdfnaaDoorPFnExactDayOfx0
import Derived.Test.YtegkhdobjcdfnaaDoorPFnExactDayOfx1
import Derived.Test.YtegkhdobjcdfnaaDoorPFnExactDayOfx2
import Derived.Test.YtegkhdobjcdfnaaDoorPureAid
import Derived.Test.YtegkhdobjcdfnaaDoorWMore
namespace Go.Proofs.YtegkhdobjcdfnaaDoor.Pure
open Go Go.RowKit Go.Proofs.YtegkhdobjcdfnaaDoor.PFnExactDayOf Go.Proofs.YtegkhdobjcdfnaaDoorW.PrintWords Go.Proofs.YtegkhdobjcdfnaaDoorW.PrintLast Go.Proofs.YtegkhdobjcdfnaaDoor.Aid
set_option linter.unusedVariables false
set_option linter.unusedSimpArgs false
set_option maxRecDepth 100000
/-- The one pure statement of the law. -/
def laws_FnExactDayOf.Pure : Prop := ∀ (a0_0 : Int) (a0_1 : Int) (a0_2 : Int), (Lit.int .i64 a0_0).wf = true → (Lit.int .i64 a0_1).wf = true → (Lit.int .i64 a0_2).wf = true → ∃ k, laws_FnExactDayOf.f k a0_0 a0_1 a0_2 = some true
theorem two_dec (a b : Prop) [Decidable a] [Decidable b] : (if a then some (decide b) else some false) = some (decide (a ∧ b)) := by
  by_cases h : a
  · rw [if_pos h]; congr 1; rw [decide_eq_decide]; exact ⟨fun hb => ⟨h, hb⟩, fun hb => hb.2⟩
  · rw [if_neg h]; congr 1; symm; rw [decide_eq_false_iff_not]; exact fun hb => h hb.1

theorem l1In_eq (a b c : Int) : spec_l1In.f a b c = some (decide (b ≤ a ∧ a ≤ c)) := by unfold spec_l1In.f; exact two_dec (a ≥ b) (a ≤ c)

theorem between_eq (a b c : Int) : impl_between.f a b c = some (decide (b ≤ a ∧ a ≤ c)) := by unfold impl_between.f; exact two_dec (a ≥ b) (a ≤ c)

theorem leap_same (y : Int) : impl_longYear.f y = spec_l2Leap.f y := rfl
theorem day_same (n : Int) : impl_isDay.f n = spec_l2Day.f n := by unfold impl_isDay.f spec_l2Day.f; rw [l1In_eq, between_eq]
theorem leap_some (y : Int) : ∃ v, spec_l2Leap.f y = some v := by
  unfold spec_l2Leap.f
  split
  · split <;> exact ⟨_, rfl⟩
  · exact ⟨_, rfl⟩
theorem long_some (y m : Int) : ∃ v, spec_l2Long.f y m = some v := by
  unfold spec_l2Long.f
  obtain ⟨v, hv⟩ := leap_some y
  rw [hv, Option.bind_some]
  repeat' split
  all_goals exact ⟨_, rfl⟩
theorem long_same (y m : Int) (h1 : 1 ≤ m) (h2 : m ≤ 12) : impl_daysOf.f y m = spec_l2Long.f y m := by
  unfold impl_daysOf.f spec_l2Long.f
  rw [leap_same]
  rcases (by omega : m = 1 ∨ m = 2 ∨ m = 3 ∨ m = 4 ∨ m = 5 ∨ m = 6 ∨ m = 7 ∨ m = 8 ∨ m = 9 ∨ m = 10 ∨ m = 11 ∨ m = 12) with rfl | rfl | rfl | rfl | rfl | rfl | rfl | rfl | rfl | rfl | rfl | rfl <;> rfl

theorem dayOf_same : ∀ k, (∀ n i y m d : Int, 1 ≤ m → m ≤ 12 → impl_DayOf.l0 k n i y m d = spec_DayOf.l0 k n i y m d) ∧ (∀ n i y m d : Int, 1 ≤ i → m ≤ 12 → impl_DayOf.l1 k n i y m d = spec_DayOf.l1 k n i y m d) := by
  intro k
  induction k with
  | zero => exact ⟨fun _ _ _ _ _ _ _ => rfl, fun _ _ _ _ _ _ _ => rfl⟩
  | succ k ih =>
    refine ⟨fun n i y m d h1 h2 => ?_, fun n i y m d h1 h2 => ?_⟩
    · rw [impl_DayOf.l0, spec_DayOf.l0, leap_same]
      split
      · congr 1
        funext t
        split
        · exact ih.1 _ _ _ _ _ h1 h2
        · exact ih.1 _ _ _ _ _ h1 h2
      · exact ih.2 _ _ _ _ _ (by omega) h2
    · rw [impl_DayOf.l1, spec_DayOf.l1, day_same]
      split
      · rename_i h
        rw [long_same y i h1 (by omega)]
        congr 1
        funext t
        rw [w64 (x := i + 1) (by omega) (by omega)]
        exact ih.2 _ _ _ _ _ (by omega) h2
      · rfl
theorem dayOf_l1 (y m d : Int) (hm : m ≤ 12) : ∀ (c i k : Nat) (n : Int), 1 ≤ i → i + c = 13 → c < k → ∃ r, spec_DayOf.l1 k n (i : Int) y m d = some r := by
  intro c
  induction c with
  | zero =>
    intro i k n h1 h2 h3
    obtain ⟨k, rfl⟩ : ∃ q, k = q + 1 := ⟨k - 1, by omega⟩
    rw [spec_DayOf.l1, if_neg (by omega)]
    unfold spec_l2Day.f
    rw [l1In_eq, Option.bind_some, Option.bind_some]
    split <;> exact ⟨_, rfl⟩
  | succ c ih =>
    intro i k n h1 h2 h3
    obtain ⟨k, rfl⟩ : ∃ q, k = q + 1 := ⟨k - 1, by omega⟩
    rw [spec_DayOf.l1]
    split
    · obtain ⟨v, hv⟩ := long_some y (i : Int)
      rw [hv, Option.bind_some, show wrap64 ((i : Int) + 1) = ((i + 1 : Nat) : Int) by rw [w64 (by omega) (by omega)]; omega]
      exact ih (i + 1) k _ (by omega) (by omega) (by omega)
    · unfold spec_l2Day.f
      rw [l1In_eq, Option.bind_some, Option.bind_some]
      split <;> exact ⟨_, rfl⟩
theorem dayOf_l0 (y m d : Int) (hy : y ≤ 2200) (hm : m ≤ 12) : ∀ (c i k : Nat) (n : Int), i + c = 2201 → c + 20 < k → ∃ r, spec_DayOf.l0 k n (i : Int) y m d = some r := by
  intro c
  induction c with
  | zero =>
    intro i k n h2 h3
    obtain ⟨k, rfl⟩ : ∃ q, k = q + 1 := ⟨k - 1, by omega⟩
    rw [spec_DayOf.l0, if_neg (by omega)]
    exact dayOf_l1 y m d hm 12 1 k n (by omega) (by omega) (by omega)
  | succ c ih =>
    intro i k n h2 h3
    obtain ⟨k, rfl⟩ : ∃ q, k = q + 1 := ⟨k - 1, by omega⟩
    rw [spec_DayOf.l0]
    split
    · obtain ⟨v, hv⟩ := leap_some (i : Int)
      rw [hv, Option.bind_some, show wrap64 ((i : Int) + 1) = ((i + 1 : Nat) : Int) by rw [w64 (by omega) (by omega)]; omega]
      split
      · exact ih (i + 1) k _ (by omega) (by omega)
      · exact ih (i + 1) k _ (by omega) (by omega)
    · exact dayOf_l1 y m d hm 12 1 k n (by omega) (by omega) (by omega)
theorem dayOf_both (y m d : Int) (k : Nat) (hk : 300 ≤ k) : ∃ r, spec_DayOf.f k y m d = some r ∧ impl_DayOf.f k y m d = some r := by
  obtain ⟨k, rfl⟩ : ∃ q, k = q + 1 := ⟨k - 1, by omega⟩
  unfold spec_DayOf.f impl_DayOf.f
  have no1 : spec_DayOf.j0 (k + 1) true y m d = some (-1) := by rw [spec_DayOf.j0, if_pos rfl]
  have no2 : impl_DayOf.j0 (k + 1) true y m d = some (-1) := by rw [impl_DayOf.j0, if_pos rfl]
  rw [l1In_eq, between_eq, Option.bind_some, Option.bind_some]
  by_cases hy : 2000 ≤ y ∧ y ≤ 2200
  · rw [if_pos (decide_eq_true hy), if_pos (decide_eq_true hy), l1In_eq, between_eq, Option.bind_some, Option.bind_some]
    by_cases hm : 1 ≤ m ∧ m ≤ 12
    · rw [if_pos (decide_eq_true hm), if_pos (decide_eq_true hm), long_same y m hm.1 hm.2]
      obtain ⟨v, hv⟩ := long_some y m
      rw [hv, Option.bind_some, Option.bind_some, l1In_eq, between_eq, Option.bind_some, Option.bind_some]
      by_cases hd : 1 ≤ d ∧ d ≤ v
      · rw [decide_eq_true hd]
        obtain ⟨r, hr⟩ := dayOf_l0 y m d hy.2 hm.2 201 2000 k (wrap64 (d - 1)) (by omega) (by omega)
        have h2 := (dayOf_same k).1 (wrap64 (d - 1)) 2000 y m d hm.1 hm.2
        refine ⟨r, ?_, ?_⟩
        · rw [spec_DayOf.j0, if_neg (by simp)]; exact hr
        · rw [impl_DayOf.j0, if_neg (by simp), h2]; exact hr
      · rw [decide_eq_false hd]
        exact ⟨-1, no1, no2⟩
    · rw [if_neg (by rw [decide_eq_true_eq]; exact hm), if_neg (by rw [decide_eq_true_eq]; exact hm)]
      exact ⟨-1, no1, no2⟩
  · rw [if_neg (by rw [decide_eq_true_eq]; exact hy), if_neg (by rw [decide_eq_true_eq]; exact hy)]
    exact ⟨-1, no1, no2⟩
theorem FnExactDayOf : laws_FnExactDayOf.Pure := by
  intro y m d _ _ _
  refine ⟨300, ?_⟩
  unfold laws_FnExactDayOf.f laws_toDate.f
  obtain ⟨r, h1, h2⟩ := dayOf_both y m d 300 (by omega)
  rw [Option.bind_some]
  dsimp only
  rw [h1, Option.bind_some, Option.bind_some]
  dsimp only
  rw [h2, Option.bind_some, if_pos rfl]

end Go.Proofs.YtegkhdobjcdfnaaDoor.Pure
