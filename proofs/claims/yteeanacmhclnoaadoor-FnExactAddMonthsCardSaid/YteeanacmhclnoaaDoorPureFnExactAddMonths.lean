/- The program's AddMonths answers as the reference's at every day and number of months. Conditions: none. -/
import Derived.Test.YteeanacmhclnoaaDoorPFnExactAddMonthsx0
import Derived.Test.YteeanacmhclnoaaDoorPFnExactAddMonthsx1
import Derived.Test.YteeanacmhclnoaaDoorPFnExactAddMonthsx2
import Derived.Test.YteeanacmhclnoaaDoorPFnExactAddMonthsx3
import Derived.Test.YteeanacmhclnoaaDoorPFnExactAddMonthsx4
import Derived.Test.YteeanacmhclnoaaDoorPFnExactAddMonthsx5
import Derived.Test.YteeanacmhclnoaaDoorPFnExactAddMonthsx6
import Derived.Test.YteeanacmhclnoaaDoorPureAid
import Derived.Test.YteeanacmhclnoaaDoorWMore
namespace Go.Proofs.YteeanacmhclnoaaDoor.Pure
open Go Go.RowKit Go.Proofs.YteeanacmhclnoaaDoor.PFnExactAddMonths Go.Proofs.YteeanacmhclnoaaDoorW.PrintWords Go.Proofs.YteeanacmhclnoaaDoorW.PrintLast Go.Proofs.YteeanacmhclnoaaDoor.Aid
set_option linter.unusedVariables false
set_option linter.unusedSimpArgs false
set_option maxRecDepth 100000
set_option maxHeartbeats 4000000
theorem two_dec (a b : Prop) [Decidable a] [Decidable b] : (if a then some (decide b) else some false) = some (decide (a ∧ b)) := by
  by_cases h : a
  · rw [if_pos h]; congr 1; rw [decide_eq_decide]; exact ⟨fun hb => ⟨h, hb⟩, fun hb => hb.2⟩
  · rw [if_neg h]; congr 1; symm; rw [decide_eq_false_iff_not]; exact fun hb => h hb.1

theorem l1In_eq (a b c : Int) : spec_l1In.f a b c = some (decide (b ≤ a ∧ a ≤ c)) := by unfold spec_l1In.f; exact two_dec (a ≥ b) (a ≤ c)

theorem between_eq (a b c : Int) : impl_between.f a b c = some (decide (b ≤ a ∧ a ≤ c)) := by unfold impl_between.f; exact two_dec (a ≥ b) (a ≤ c)

theorem leap_same (y : Int) : impl_longYear.f y = spec_l2Leap.f y := rfl
theorem day_same (n : Int) : impl_isDay.f n = spec_l2Day.f n := by unfold impl_isDay.f spec_l2Day.f; rw [l1In_eq, between_eq]
theorem leap_some (y : Int) : ∃ v, spec_l2Leap.f y = some v := by
  unfold spec_l2Leap.f
  split
  · split <;> exact ⟨_, rfl⟩
  · exact ⟨_, rfl⟩
theorem long_some (y m : Int) : ∃ v, spec_l2Long.f y m = some v := by
  unfold spec_l2Long.f
  obtain ⟨v, hv⟩ := leap_some y
  rw [hv, Option.bind_some]
  repeat' split
  all_goals exact ⟨_, rfl⟩
theorem long_same (y m : Int) (h1 : 1 ≤ m) (h2 : m ≤ 12) : impl_daysOf.f y m = spec_l2Long.f y m := by
  unfold impl_daysOf.f spec_l2Long.f
  rw [leap_same]
  rcases (by omega : m = 1 ∨ m = 2 ∨ m = 3 ∨ m = 4 ∨ m = 5 ∨ m = 6 ∨ m = 7 ∨ m = 8 ∨ m = 9 ∨ m = 10 ∨ m = 11 ∨ m = 12) with rfl | rfl | rfl | rfl | rfl | rfl | rfl | rfl | rfl | rfl | rfl | rfl <;> rfl

def lp (y : Int) : Bool := (spec_l2Leap.f y).getD false
theorem lp_eq (y : Int) : spec_l2Leap.f y = some (lp y) := by
  obtain ⟨v, hv⟩ := leap_some y
  unfold lp
  rw [hv]; rfl
/-- How long a month is, in a long year or another. -/
def ml (b : Bool) (m : Nat) : Nat := if m = 2 then (if b = true then 29 else 28) else if m = 4 ∨ m = 6 ∨ m = 9 ∨ m = 11 then 30 else 31
theorem ml_range (b : Bool) (m : Nat) : 28 ≤ ml b m ∧ ml b m ≤ 31 := by
  unfold ml
  cases b <;> repeat' split
  all_goals omega
theorem long_ml (y : Int) (m : Nat) : spec_l2Long.f y (m : Int) = some ((ml (lp y) m : Nat) : Int) := by
  unfold spec_l2Long.f ml
  rw [lp_eq, Option.bind_some]
  cases lp y
  all_goals repeat' split
  all_goals first | rfl | omega | (exfalso; simp_all; done) | (exfalso; omega)
/-- The days of the last c months of a year. -/
def remd (b : Bool) : Nat → Nat
  | 0 => 0
  | c + 1 => ml b (12 - c) + remd b c
theorem remd_12 (b : Bool) : remd b 12 = if b = true then 366 else 365 := by cases b <;> rfl
theorem spec_step (y : Int) (m k : Nat) (x : Int) (hm1 : 1 ≤ m) (hm2 : m ≤ 12) (hx : 0 ≤ x ∧ x ≤ 100000) (hy : 2000 ≤ y ∧ y ≤ 3000) :
    spec_DateOf.l0 (k + 1) x y (m : Int) = if (ml (lp y) m : Int) ≤ x then (if m = 12 then spec_DateOf.l0 k (x - (ml (lp y) m : Nat)) (y + 1) 1 else spec_DateOf.l0 k (x - (ml (lp y) m : Nat)) y ((m + 1 : Nat) : Int)) else some (y, (m : Int), x + 1) := by
  have hr := ml_range (lp y) m
  rw [spec_DateOf.l0, long_ml, Option.bind_some, Option.bind_some, w64 (x := (m : Int) + 1) (by omega) (by omega), w64 (x := x + 1) (by omega) (by omega)]
  by_cases h : (ml (lp y) m : Int) ≤ x
  · rw [if_pos (show x ≥ (ml (lp y) m : Int) from h), if_pos h, w64 (by omega) (by omega), w64 (x := y + 1) (by omega) (by omega)]
    by_cases h12 : m = 12
    · rw [if_pos (by omega), if_pos h12]
    · rw [if_neg (by omega), if_neg h12]; rfl
  · rw [if_neg (show ¬ x ≥ (ml (lp y) m : Int) from h), if_neg h]
theorem spec_year (y : Int) (hy : 2000 ≤ y ∧ y ≤ 3000) : ∀ (c k : Nat) (x : Int), 1 ≤ c → c ≤ 12 → (remd (lp y) c : Int) ≤ x → x ≤ 100000 → spec_DateOf.l0 (k + c) x y ((13 - c : Nat) : Int) = spec_DateOf.l0 k (x - (remd (lp y) c : Nat)) (y + 1) 1 := by
  intro c
  induction c with
  | zero => intro k x h; omega
  | succ c ih =>
    intro k x h1 h2 h3 h4
    have er : remd (lp y) (c + 1) = ml (lp y) (12 - c) + remd (lp y) c := rfl
    rw [er] at h3 ⊢
    rw [show 13 - (c + 1) = 12 - c by omega, show k + (c + 1) = (k + c) + 1 by omega, spec_step y (12 - c) (k + c) x (by omega) (by omega) (by omega) hy, if_pos (by omega)]
    by_cases hc : c = 0
    · subst hc
      rw [if_pos (by omega)]
      rfl
    · rw [if_neg (by omega), show 12 - c + 1 = 13 - c by omega, ih k _ (by omega) (by omega) (by omega) (by omega)]
      congr 1 <;> omega
/-- A date that is one: year, month and day. -/
def isDate (r : Int × Int × Int) : Prop := (2000 ≤ r.1 ∧ r.1 ≤ 3000) ∧ (∃ m : Nat, r.2.1 = m ∧ 1 ≤ m ∧ m ≤ 12 ∧ 1 ≤ r.2.2 ∧ r.2.2 ≤ (ml (lp r.1) m : Nat))
theorem month_both (y : Int) (hy : 2000 ≤ y ∧ y ≤ 3000) : ∀ (c k k' : Nat) (x : Int), c ≤ 12 → 0 ≤ x → x < (remd (lp y) c : Int) → x ≤ 100000 → c < k → c < k' →
    ∃ r, spec_DateOf.l0 k x y ((13 - c : Nat) : Int) = some r ∧ impl_DateOf.l1 k' x y ((13 - c : Nat) : Int) 1 = some r ∧ isDate r := by
  intro c
  induction c with
  | zero => intro k k' x _ h0 h1; unfold remd at h1; omega
  | succ c ih =>
    intro k k' x h2 h0 h3 h4 hk hk'
    obtain ⟨k, rfl⟩ : ∃ q, k = q + 1 := ⟨k - 1, by omega⟩
    obtain ⟨k', rfl⟩ : ∃ q, k' = q + 1 := ⟨k' - 1, by omega⟩
    have er : remd (lp y) (c + 1) = ml (lp y) (12 - c) + remd (lp y) c := rfl
    have hr := ml_range (lp y) (12 - c)
    rw [er] at h3
    rw [show 13 - (c + 1) = 12 - c by omega, spec_step y (12 - c) k x (by omega) (by omega) (by omega) hy, impl_DateOf.l1, long_same y _ (by omega) (by omega), long_ml, Option.bind_some, Option.bind_some]
    by_cases h : (ml (lp y) (12 - c) : Int) ≤ x
    · have hc : c ≠ 0 := by
        intro hc
        subst hc
        unfold remd at h3
        omega
      rw [if_pos h, if_pos (show x ≥ (ml (lp y) (12 - c) : Int) from h), if_neg (by omega), w64 (by omega) (by omega), w64 (by omega) (by omega), show 12 - c + 1 = 13 - c by omega, show ((12 - c : Nat) : Int) + 1 = ((13 - c : Nat) : Int) by omega]
      exact ih k k' _ (by omega) (by omega) (by omega) (by omega) (by omega) (by omega)
    · rw [if_neg h, if_neg (show ¬ x ≥ (ml (lp y) (12 - c) : Int) from h)]
      refine ⟨_, rfl, ?_, hy, 12 - c, rfl, by omega, by omega, by show 1 ≤ x + 1; omega, by show x + 1 ≤ ((ml (lp y) (12 - c) : Nat) : Int); omega⟩
      rw [w64 (by omega) (by omega), Int.add_comm 1 x]
theorem date_both : ∀ (j k k' : Nat) (x y : Int), 0 ≤ x → x ≤ 365 * (j : Int) + 364 → j ≤ 200 → 2000 ≤ y → y + (j : Int) ≤ 3000 → 12 * j + 20 ≤ k → j + 20 ≤ k' →
    ∃ r, spec_DateOf.l0 k x y 1 = some r ∧ impl_DateOf.l0 k' x y 1 1 = some r ∧ isDate r := by
  intro j
  induction j with
  | zero =>
    intro k k' x y h0 h1 hj hy1 hy2 hk hk'
    obtain ⟨k', rfl⟩ : ∃ q, k' = q + 2 := ⟨k' - 2, by omega⟩
    have h12 := remd_12 (lp y)
    obtain ⟨r, r1, r2, r3⟩ := month_both y ⟨hy1, by omega⟩ 12 k k' x (by omega) h0 (by rw [h12]; split <;> omega) (by omega) (by omega) (by omega)
    refine ⟨r, r1, ?_, r3⟩
    rw [impl_DateOf.l0, leap_same, lp_eq, Option.bind_some]
    rw [if_pos (show x < 366 by omega), if_pos (show x < 365 by omega), impl_DateOf.j1]
    split <;> exact r2
  | succ j ih =>
    intro k k' x y h0 h1 hj hy1 hy2 hk hk'
    obtain ⟨k', rfl⟩ : ∃ q, k' = q + 2 := ⟨k' - 2, by omega⟩
    have h12 := remd_12 (lp y)
    rw [impl_DateOf.l0, leap_same, lp_eq, Option.bind_some]
    by_cases hx : x < (remd (lp y) 12 : Int)
    · obtain ⟨r, r1, r2, r3⟩ := month_both y ⟨hy1, by omega⟩ 12 k k' x (by omega) h0 hx (by omega) (by omega) (by omega)
      refine ⟨r, r1, ?_, r3⟩
      rw [h12] at hx
      cases hb : lp y
      · rw [hb] at hx
        rw [if_neg (by simp), if_pos (by simpa using hx), impl_DateOf.j1]; exact r2
      · rw [hb] at hx
        rw [if_pos rfl, if_pos (by simpa using hx), impl_DateOf.j1]; exact r2
    · have hs := spec_year y ⟨hy1, by omega⟩ 12 (k - 12) x (by omega) (by omega) (by omega) (by omega)
      rw [show k - 12 + 12 = k by omega] at hs
      rw [show ((13 - 12 : Nat) : Int) = 1 from rfl, h12] at hs
      rw [h12] at hx
      rw [hs]
      cases hb : lp y
      · rw [hb, if_neg (by simp)] at hx
        rw [if_neg (by simp), if_neg (by simp), if_neg (by omega), w64 (by omega) (by omega), w64 (by omega) (by omega)]
        exact ih (k - 12) (k' + 1) _ _ (by omega) (by omega) (by omega) (by omega) (by omega) (by omega) (by omega)
      · rw [hb, if_pos rfl] at hx
        rw [if_pos rfl, if_pos rfl, if_neg (by omega), w64 (by omega) (by omega), w64 (by omega) (by omega)]
        exact ih (k - 12) (k' + 1) _ _ (by omega) (by omega) (by omega) (by omega) (by omega) (by omega) (by omega)
theorem dateOf_both2 (x : Int) (k k' : Nat) (hk : 2000 ≤ k) (hk' : 2000 ≤ k') : ∃ r, spec_DateOf.f k x = some r ∧ impl_DateOf.f k' x = some r ∧ (0 ≤ x ∧ x ≤ 40000 → isDate r) ∧ (¬ (0 ≤ x ∧ x ≤ 40000) → r = (0, 0, 0)) := by
  unfold spec_DateOf.f impl_DateOf.f
  rw [day_same]
  unfold spec_l2Day.f
  rw [l1In_eq, Option.bind_some, Option.bind_some, Option.bind_some]
  by_cases h : 0 ≤ x ∧ x ≤ 40000
  · obtain ⟨r, r1, r2, r3⟩ := date_both 110 k k' x 2000 h.1 (by omega) (by omega) (by omega) (by omega) (by omega) (by omega)
    rw [if_pos (decide_eq_true h), if_pos (decide_eq_true h)]
    exact ⟨r, r1, r2, fun _ => r3, fun hn => absurd h hn⟩
  · rw [if_neg (by rw [decide_eq_true_eq]; exact h), if_neg (by rw [decide_eq_true_eq]; exact h)]
    exact ⟨_, rfl, rfl, fun hh => absurd hh h, fun _ => rfl⟩
theorem dateOf_both (x : Int) (k : Nat) (hk : 2000 ≤ k) : ∃ r, spec_DateOf.f k x = some r ∧ impl_DateOf.f k x = some r ∧ (0 ≤ x ∧ x ≤ 40000 → isDate r) ∧ (¬ (0 ≤ x ∧ x ≤ 40000) → r = (0, 0, 0)) := dateOf_both2 x k k hk hk

theorem dayOf_same : ∀ k, (∀ n i y m d : Int, 1 ≤ m → m ≤ 12 → impl_DayOf.l0 k n i y m d = spec_DayOf.l0 k n i y m d) ∧ (∀ n i y m d : Int, 1 ≤ i → m ≤ 12 → impl_DayOf.l1 k n i y m d = spec_DayOf.l1 k n i y m d) := by
  intro k
  induction k with
  | zero => exact ⟨fun _ _ _ _ _ _ _ => rfl, fun _ _ _ _ _ _ _ => rfl⟩
  | succ k ih =>
    refine ⟨fun n i y m d h1 h2 => ?_, fun n i y m d h1 h2 => ?_⟩
    · rw [impl_DayOf.l0, spec_DayOf.l0, leap_same]
      split
      · congr 1
        funext t
        split
        · exact ih.1 _ _ _ _ _ h1 h2
        · exact ih.1 _ _ _ _ _ h1 h2
      · exact ih.2 _ _ _ _ _ (by omega) h2
    · rw [impl_DayOf.l1, spec_DayOf.l1, day_same]
      split
      · rename_i h
        rw [long_same y i h1 (by omega)]
        congr 1
        funext t
        rw [w64 (x := i + 1) (by omega) (by omega)]
        exact ih.2 _ _ _ _ _ (by omega) h2
      · rfl
theorem dayOf_l1 (y m d : Int) (hm : m ≤ 12) : ∀ (c i k : Nat) (n : Int), 1 ≤ i → i + c = 13 → c < k → ∃ r, spec_DayOf.l1 k n (i : Int) y m d = some r := by
  intro c
  induction c with
  | zero =>
    intro i k n h1 h2 h3
    obtain ⟨k, rfl⟩ : ∃ q, k = q + 1 := ⟨k - 1, by omega⟩
    rw [spec_DayOf.l1, if_neg (by omega)]
    unfold spec_l2Day.f
    rw [l1In_eq, Option.bind_some, Option.bind_some]
    split <;> exact ⟨_, rfl⟩
  | succ c ih =>
    intro i k n h1 h2 h3
    obtain ⟨k, rfl⟩ : ∃ q, k = q + 1 := ⟨k - 1, by omega⟩
    rw [spec_DayOf.l1]
    split
    · obtain ⟨v, hv⟩ := long_some y (i : Int)
      rw [hv, Option.bind_some, show wrap64 ((i : Int) + 1) = ((i + 1 : Nat) : Int) by rw [w64 (by omega) (by omega)]; omega]
      exact ih (i + 1) k _ (by omega) (by omega) (by omega)
    · unfold spec_l2Day.f
      rw [l1In_eq, Option.bind_some, Option.bind_some]
      split <;> exact ⟨_, rfl⟩
theorem dayOf_l0 (y m d : Int) (hy : y ≤ 2200) (hm : m ≤ 12) : ∀ (c i k : Nat) (n : Int), i + c = 2201 → c + 20 < k → ∃ r, spec_DayOf.l0 k n (i : Int) y m d = some r := by
  intro c
  induction c with
  | zero =>
    intro i k n h2 h3
    obtain ⟨k, rfl⟩ : ∃ q, k = q + 1 := ⟨k - 1, by omega⟩
    rw [spec_DayOf.l0, if_neg (by omega)]
    exact dayOf_l1 y m d hm 12 1 k n (by omega) (by omega) (by omega)
  | succ c ih =>
    intro i k n h2 h3
    obtain ⟨k, rfl⟩ : ∃ q, k = q + 1 := ⟨k - 1, by omega⟩
    rw [spec_DayOf.l0]
    split
    · obtain ⟨v, hv⟩ := leap_some (i : Int)
      rw [hv, Option.bind_some, show wrap64 ((i : Int) + 1) = ((i + 1 : Nat) : Int) by rw [w64 (by omega) (by omega)]; omega]
      split
      · exact ih (i + 1) k _ (by omega) (by omega)
      · exact ih (i + 1) k _ (by omega) (by omega)
    · exact dayOf_l1 y m d hm 12 1 k n (by omega) (by omega) (by omega)
theorem dayOf_both (y m d : Int) (k : Nat) (hk : 300 ≤ k) : ∃ r, spec_DayOf.f k y m d = some r ∧ impl_DayOf.f k y m d = some r := by
  obtain ⟨k, rfl⟩ : ∃ q, k = q + 1 := ⟨k - 1, by omega⟩
  unfold spec_DayOf.f impl_DayOf.f
  have no1 : spec_DayOf.j0 (k + 1) true y m d = some (-1) := by rw [spec_DayOf.j0, if_pos rfl]
  have no2 : impl_DayOf.j0 (k + 1) true y m d = some (-1) := by rw [impl_DayOf.j0, if_pos rfl]
  rw [l1In_eq, between_eq, Option.bind_some, Option.bind_some]
  by_cases hy : 2000 ≤ y ∧ y ≤ 2200
  · rw [if_pos (decide_eq_true hy), if_pos (decide_eq_true hy), l1In_eq, between_eq, Option.bind_some, Option.bind_some]
    by_cases hm : 1 ≤ m ∧ m ≤ 12
    · rw [if_pos (decide_eq_true hm), if_pos (decide_eq_true hm), long_same y m hm.1 hm.2]
      obtain ⟨v, hv⟩ := long_some y m
      rw [hv, Option.bind_some, Option.bind_some, l1In_eq, between_eq, Option.bind_some, Option.bind_some]
      by_cases hd : 1 ≤ d ∧ d ≤ v
      · rw [decide_eq_true hd]
        obtain ⟨r, hr⟩ := dayOf_l0 y m d hy.2 hm.2 201 2000 k (wrap64 (d - 1)) (by omega) (by omega)
        have h2 := (dayOf_same k).1 (wrap64 (d - 1)) 2000 y m d hm.1 hm.2
        refine ⟨r, ?_, ?_⟩
        · rw [spec_DayOf.j0, if_neg (by simp)]; exact hr
        · rw [impl_DayOf.j0, if_neg (by simp), h2]; exact hr
      · rw [decide_eq_false hd]
        exact ⟨-1, no1, no2⟩
    · rw [if_neg (by rw [decide_eq_true_eq]; exact hm), if_neg (by rw [decide_eq_true_eq]; exact hm)]
      exact ⟨-1, no1, no2⟩
  · rw [if_neg (by rw [decide_eq_true_eq]; exact hy), if_neg (by rw [decide_eq_true_eq]; exact hy)]
    exact ⟨-1, no1, no2⟩

theorem dayOf_far (y m d : Int) (k : Nat) (hy : ¬ (2000 ≤ y ∧ y ≤ 2200)) : impl_DayOf.f (k + 1) y m d = some (-1) := by
  unfold impl_DayOf.f
  rw [between_eq, Option.bind_some, if_neg (by rw [decide_eq_true_eq]; exact hy), impl_DayOf.j0, if_pos rfl]
theorem FnExactAddMonths : laws_FnExactAddMonths.Pure := by
  intro x n _ _
  refine ⟨3000, ?_⟩
  unfold laws_FnExactAddMonths.f spec_AddMonths.f impl_AddMonths.f spec_l2Day.f
  have no1 : ∀ b c, spec_AddMonths.j0 (2999 + 1) b c true = some (-1) := by intro b c; rw [spec_AddMonths.j0, if_pos rfl]
  have no2 : ∀ b c d e, impl_AddMonths.j0 (2999 + 1) b true c d e = some (-1) := by intro b c d e; rw [impl_AddMonths.j0, if_pos rfl]
  obtain ⟨⟨y, m, d⟩, h1, h2, h3, h4⟩ := dateOf_both2 x 2999 3000 (by omega) (by omega)
  rw [l1In_eq, Option.bind_some, Option.bind_some, h2, Option.bind_some]
  dsimp only
  by_cases h : 0 ≤ x ∧ x ≤ 40000
  · obtain ⟨⟨hy1, hy2⟩, q, hm, hn1, hn2, hd1, hd2⟩ := h3 h
    dsimp only at hy1 hy2 hm hd1 hd2
    subst hm
    rw [if_pos (decide_eq_true h), l1In_eq, Option.bind_some, show (y == 0) = false by rw [beq_eq_false_iff_ne]; omega, Bool.false_and, if_neg (by simp), between_eq, Option.bind_some]
    by_cases hn : -1200 ≤ n ∧ n ≤ 1200
    · rw [decide_eq_true hn]
      show (spec_AddMonths.j0 (2999 + 1) x n false).bind _ = _
      rw [spec_AddMonths.j0, if_neg (by simp), h1, Option.bind_some]
      dsimp only
      rw [show (3000 : Nat) = 2999 + 1 from rfl, impl_AddMonths.j0, if_neg (by simp)]
      have w1 : wrap64 (wrap64 (wrap64 (wrap64 (y * 12) + (q : Int)) - 1) + n) = y * 12 + (q : Int) - 1 + n := by
        rw [w64 (x := y * 12) (by omega) (by omega), w64 (x := y * 12 + _) (by omega) (by omega), w64 (x := y * 12 + (q : Int) - 1) (by omega) (by omega), w64 (by omega) (by omega)]
      rw [w1]
      generalize hK : y * 12 + (q : Int) - 1 + n = K
      have hK0 : 0 ≤ K ∧ K ≤ 100000 := by omega
      rw [Int.tdiv_eq_ediv_of_nonneg hK0.1, Int.tmod_eq_emod_of_nonneg hK0.1, w64 (x := K / 12) (by omega) (by omega), w64 (x := K % 12 + 1) (by omega) (by omega)]
      obtain ⟨M, hM⟩ : ∃ M : Nat, K % 12 + 1 = M := ⟨(K % 12 + 1).toNat, by omega⟩
      rw [hM]
      generalize hY : K / 12 = Y
      rw [l1In_eq, Option.bind_some, long_same Y M (by omega) (by omega), long_ml, Option.bind_some, Option.bind_some, Option.bind_some]
      by_cases hYr : 2000 ≤ Y ∧ Y ≤ 2200
      · rw [if_pos (decide_eq_true hYr)]
        by_cases hd : d > ((ml (lp Y) M : Nat) : Int)
        · obtain ⟨r, r1, r2⟩ := dayOf_both Y (M : Int) ((ml (lp Y) M : Nat) : Int) 2999 (by omega)
          rw [if_pos hd, if_pos hd, r1, r2, Option.bind_some, Option.bind_some, Option.bind_some, if_pos rfl]
        · obtain ⟨r, r1, r2⟩ := dayOf_both Y (M : Int) d 2999 (by omega)
          rw [if_neg hd, if_neg hd, r1, r2, Option.bind_some, Option.bind_some, Option.bind_some, if_pos rfl]
      · rw [if_neg (by rw [decide_eq_true_eq]; exact hYr), show (2999 : Nat) = 2998 + 1 from rfl, dayOf_far Y _ _ _ hYr, dayOf_far Y _ _ _ hYr]
        split <;> rfl
    · rw [decide_eq_false hn]
      show (spec_AddMonths.j0 (2999 + 1) x n true).bind _ = _
      rw [no1, Option.bind_some]
      show (impl_AddMonths.j0 (2999 + 1) n true _ _ _).bind _ = _
      rw [no2, Option.bind_some, if_pos rfl]
  · rw [if_neg (by rw [decide_eq_true_eq]; exact h)]
    have e := h4 h
    injection e with e1 e2
    injection e2 with e2 e3
    subst e1 e2 e3
    show (spec_AddMonths.j0 (2999 + 1) x n true).bind _ = _
    rw [no1, Option.bind_some, if_pos (by rfl)]
    show (impl_AddMonths.j0 (2999 + 1) n true _ _ _).bind _ = _
    rw [no2, Option.bind_some, if_pos rfl]

end Go.Proofs.YteeanacmhclnoaaDoor.Pure
