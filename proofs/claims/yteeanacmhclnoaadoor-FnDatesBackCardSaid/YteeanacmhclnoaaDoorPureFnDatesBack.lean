/- Days and dates turn into each other at every drawn case. Conditions: none. -/
import Derived.Test.YteeanacmhclnoaaDoorPFnDatesBackx0
import Derived.Test.YteeanacmhclnoaaDoorPFnDatesBackx1
import Derived.Test.YteeanacmhclnoaaDoorPFnDatesBackx2
import Derived.Test.YteeanacmhclnoaaDoorPFnDatesBackx3
import Derived.Test.YteeanacmhclnoaaDoorPFnDatesBackx4
import Derived.Test.YteeanacmhclnoaaDoorPFnDatesBackx5
import Derived.Test.YteeanacmhclnoaaDoorPFnDatesBackx6
import Derived.Test.YteeanacmhclnoaaDoorPureAid
import Derived.Test.YteeanacmhclnoaaDoorWMore
namespace Go.Proofs.YteeanacmhclnoaaDoor.Pure
open Go Go.RowKit Go.Proofs.YteeanacmhclnoaaDoor.PFnDatesBack Go.Proofs.YteeanacmhclnoaaDoorW.PrintWords Go.Proofs.YteeanacmhclnoaaDoorW.PrintLast Go.Proofs.YteeanacmhclnoaaDoor.Aid
set_option linter.unusedVariables false
set_option linter.unusedSimpArgs false
set_option maxRecDepth 100000
set_option maxHeartbeats 4000000
theorem two_dec (a b : Prop) [Decidable a] [Decidable b] : (if a then some (decide b) else some false) = some (decide (a ∧ b)) := by
  by_cases h : a
  · rw [if_pos h]; congr 1; rw [decide_eq_decide]; exact ⟨fun hb => ⟨h, hb⟩, fun hb => hb.2⟩
  · rw [if_neg h]; congr 1; symm; rw [decide_eq_false_iff_not]; exact fun hb => h hb.1

theorem between_eq (a b c : Int) : impl_between.f a b c = some (decide (b ≤ a ∧ a ≤ c)) := by unfold impl_between.f; exact two_dec (a ≥ b) (a ≤ c)

theorem leap_someI (y : Int) : ∃ v, impl_longYear.f y = some v := by
  unfold impl_longYear.f
  split
  · split <;> exact ⟨_, rfl⟩
  · exact ⟨_, rfl⟩
def lp (y : Int) : Bool := (impl_longYear.f y).getD false
theorem lp_eq (y : Int) : impl_longYear.f y = some (lp y) := by
  obtain ⟨v, hv⟩ := leap_someI y
  unfold lp
  rw [hv]; rfl
/-- How long a month is, in a long year or another. -/
def ml (b : Bool) (m : Nat) : Nat := if m = 2 then (if b = true then 29 else 28) else if m = 4 ∨ m = 6 ∨ m = 9 ∨ m = 11 then 30 else 31
theorem ml_range (b : Bool) (m : Nat) : 28 ≤ ml b m ∧ ml b m ≤ 31 := by
  unfold ml
  cases b <;> repeat' split
  all_goals omega
theorem daysOf_ml (y : Int) (m : Nat) (h1 : 1 ≤ m) (h2 : m ≤ 12) : impl_daysOf.f y (m : Int) = some ((ml (lp y) m : Nat) : Int) := by
  unfold impl_daysOf.f ml
  rw [lp_eq]
  rcases (by omega : m = 1 ∨ m = 2 ∨ m = 3 ∨ m = 4 ∨ m = 5 ∨ m = 6 ∨ m = 7 ∨ m = 8 ∨ m = 9 ∨ m = 10 ∨ m = 11 ∨ m = 12) with rfl | rfl | rfl | rfl | rfl | rfl | rfl | rfl | rfl | rfl | rfl | rfl <;> cases lp y <;> rfl
def kl (K : Nat) : Nat := ml (lp (2000 + ((K / 12 : Nat) : Int))) (K % 12 + 1)
/-- The days ahead of the K-th month behind 2000's beginning. -/
def ms (K : Nat) : Nat := if h : 0 < K then ms (K - 1) + kl (K - 1) else 0
termination_by K
decreasing_by omega
theorem ms_zero : ms 0 = 0 := by rw [ms, dif_neg (by omega)]
theorem ms_succ (K : Nat) : ms (K + 1) = ms K + kl K := by rw [ms, dif_pos (by omega), Nat.add_sub_cancel]
theorem kl_range (K : Nat) : 28 ≤ kl K ∧ kl K ≤ 31 := ml_range _ _
theorem ms_mono : ∀ d K : Nat, ms K ≤ ms (K + d) := by
  intro d
  induction d with
  | zero => intro K; exact Nat.le_refl _
  | succ d ih => intro K; have := ih K; rw [← Nat.add_assoc, ms_succ]; omega
theorem ms_le : ∀ K : Nat, 28 * K ≤ ms K ∧ ms K ≤ 31 * K := by
  intro K
  induction K with
  | zero => rw [ms_zero]; omega
  | succ K ih => have := kl_range K; rw [ms_succ]; omega
/-- A day lies in one month alone. -/
theorem ms_one (K K' d d' : Nat) (h1 : d < kl K) (h2 : d' < kl K') (h : ms K + d = ms K' + d') : K = K' ∧ d = d' := by
  rcases Nat.lt_trichotomy K K' with hl | rfl | hl
  · have := ms_mono (K' - (K + 1)) (K + 1)
    rw [show K + 1 + (K' - (K + 1)) = K' by omega, ms_succ] at this
    omega
  · exact ⟨rfl, by omega⟩
  · have := ms_mono (K - (K' + 1)) (K' + 1)
    rw [show K' + 1 + (K - (K' + 1)) = K by omega, ms_succ] at this
    omega
/-- The months of the j-th year, one by one. -/
theorem kl_year (j i : Nat) (hi : i < 12) : kl (12 * j + i) = ml (lp (2000 + (j : Int))) (i + 1) := by
  unfold kl
  rw [show (12 * j + i) / 12 = j by omega, show (12 * j + i) % 12 = i by omega]
theorem ms_year (j : Nat) : ms (12 * (j + 1)) = ms (12 * j) + (if lp (2000 + (j : Int)) = true then 366 else 365) := by
  have e : ∀ i, i < 12 → ms (12 * j + (i + 1)) = ms (12 * j + i) + ml (lp (2000 + (j : Int))) (i + 1) := by
    intro i hi
    rw [← Nat.add_assoc, ms_succ, kl_year j i hi]
  rw [show 12 * (j + 1) = 12 * j + 12 by omega, e 11 (by omega), e 10 (by omega), e 9 (by omega), e 8 (by omega), e 7 (by omega), e 6 (by omega), e 5 (by omega), e 4 (by omega), e 3 (by omega), e 2 (by omega), e 1 (by omega), e 0 (by omega), Nat.add_zero]
  generalize ms (12 * j) = X
  cases lp (2000 + (j : Int)) <;> simp [ml]
/-- The date of the d-th day (from 0 on) of the K-th month. -/
def dateK (K d : Nat) : Int × Int × Int := (2000 + ((K / 12 : Nat) : Int), ((K % 12 + 1 : Nat) : Int), ((d + 1 : Nat) : Int))
theorem monthsK (j : Nat) (hj : j ≤ 1000) : ∀ (c k x : Nat), c ≤ 12 → ms (12 * j + (12 - c)) + x < ms (12 * j + 12) → x ≤ 1000 → c < k → ∃ K d, impl_DateOf.l1 k (x : Int) (2000 + (j : Int)) ((13 - c : Nat) : Int) 1 = some (dateK K d) ∧ d < kl K ∧ ms K + d = ms (12 * j + (12 - c)) + x ∧ K / 12 = j := by
  intro c
  induction c with
  | zero => intro k x _ h _ _; rw [show 12 - 0 = 12 from rfl] at h; omega
  | succ c ih =>
    intro k x hc h hx hk
    obtain ⟨k, rfl⟩ : ∃ q, k = q + 1 := ⟨k - 1, by omega⟩
    have hr := ml_range (lp (2000 + (j : Int))) (12 - c)
    have hkl : kl (12 * j + (12 - (c + 1))) = ml (lp (2000 + (j : Int))) (12 - c) := by
      rw [kl_year j _ (by omega), show 12 - (c + 1) + 1 = 12 - c by omega]
    have hms := ms_succ (12 * j + (12 - (c + 1)))
    rw [hkl, show 12 * j + (12 - (c + 1)) + 1 = 12 * j + (12 - c) by omega] at hms
    rw [show 13 - (c + 1) = 12 - c by omega, impl_DateOf.l1, daysOf_ml _ _ (by omega) (by omega), Option.bind_some, Option.bind_some]
    by_cases hxl : (x : Int) ≥ ((ml (lp (2000 + (j : Int))) (12 - c) : Nat) : Int)
    · have e1 : wrap64 ((x : Int) - ((ml (lp (2000 + (j : Int))) (12 - c) : Nat) : Int)) = ((x - ml (lp (2000 + (j : Int))) (12 - c) : Nat) : Int) := by rw [w64 (by omega) (by omega)]; omega
      have e2 : wrap64 (((12 - c : Nat) : Int) + 1) = ((13 - c : Nat) : Int) := by rw [w64 (by omega) (by omega)]; omega
      rw [if_pos hxl, e1, e2]
      obtain ⟨K, d, r1, r2, r3, r4⟩ := ih k (x - ml (lp (2000 + (j : Int))) (12 - c)) (by omega) (by omega) (by omega) (by omega)
      exact ⟨K, d, r1, r2, by omega, r4⟩
    · rw [if_neg hxl]
      refine ⟨12 * j + (12 - (c + 1)), x, ?_, by rw [hkl]; omega, rfl, by omega⟩
      unfold dateK
      rw [show (12 * j + (12 - (c + 1))) / 12 = j by omega, show (12 * j + (12 - (c + 1))) % 12 + 1 = 12 - c by omega, w64 (by omega) (by omega)]
      congr 3
      omega
theorem yearsK : ∀ (n j k x : Nat), x ≤ 365 * n + 364 → j + n ≤ 900 → n + 20 ≤ k → ∃ K d, impl_DateOf.l0 k (x : Int) (2000 + (j : Int)) 1 1 = some (dateK K d) ∧ d < kl K ∧ ms K + d = ms (12 * j) + x := by
  intro n
  induction n with
  | zero =>
    intro j k x hx hj hk
    obtain ⟨k, rfl⟩ : ∃ q, k = q + 2 := ⟨k - 2, by omega⟩
    have hy := ms_year j
    obtain ⟨K, d, r1, r2, r3, _⟩ := monthsK j (by omega) 12 k x (by omega) (by rw [show 12 * j + (12 - 12) = 12 * j by omega, show 12 * j + 12 = 12 * (j + 1) by omega, hy]; split <;> omega) (by omega) (by omega)
    refine ⟨K, d, ?_, r2, by simpa using r3⟩
    rw [impl_DateOf.l0, lp_eq, Option.bind_some, if_pos (show (x : Int) < 366 by omega), if_pos (show (x : Int) < 365 by omega), impl_DateOf.j1]
    split <;> exact r1
  | succ n ih =>
    intro j k x hx hj hk
    obtain ⟨k, rfl⟩ : ∃ q, k = q + 2 := ⟨k - 2, by omega⟩
    have hy := ms_year j
    have ey : wrap64 (2000 + (j : Int) + 1) = 2000 + ((j + 1 : Nat) : Int) := by rw [w64 (by omega) (by omega)]; omega
    rw [impl_DateOf.l0, lp_eq, Option.bind_some]
    cases hb : lp (2000 + (j : Int))
    · rw [hb, if_neg (by simp)] at hy
      rw [if_neg (by simp)]
      by_cases h : x < 365
      · obtain ⟨K, d, r1, r2, r3, _⟩ := monthsK j (by omega) 12 k x (by omega) (by rw [show 12 * j + (12 - 12) = 12 * j by omega, show 12 * j + 12 = 12 * (j + 1) by omega, hy]; omega) (by omega) (by omega)
        rw [if_pos (show (x : Int) < 365 by omega), impl_DateOf.j1]
        exact ⟨K, d, r1, r2, by simpa using r3⟩
      · have ex : wrap64 ((x : Int) - 365) = ((x - 365 : Nat) : Int) := by rw [w64 (by omega) (by omega)]; omega
        obtain ⟨K, d, r1, r2, r3⟩ := ih (j + 1) (k + 1) (x - 365) (by omega) (by omega) (by omega)
        rw [if_neg (show ¬ (x : Int) < 365 by omega), ex, ey]
        exact ⟨K, d, r1, r2, by omega⟩
    · rw [hb, if_pos rfl] at hy
      rw [if_pos rfl]
      by_cases h : x < 366
      · obtain ⟨K, d, r1, r2, r3, _⟩ := monthsK j (by omega) 12 k x (by omega) (by rw [show 12 * j + (12 - 12) = 12 * j by omega, show 12 * j + 12 = 12 * (j + 1) by omega, hy]; omega) (by omega) (by omega)
        rw [if_pos (show (x : Int) < 366 by omega), impl_DateOf.j1]
        exact ⟨K, d, r1, r2, by simpa using r3⟩
      · have ex : wrap64 ((x : Int) - 366) = ((x - 366 : Nat) : Int) := by rw [w64 (by omega) (by omega)]; omega
        obtain ⟨K, d, r1, r2, r3⟩ := ih (j + 1) (k + 1) (x - 366) (by omega) (by omega) (by omega)
        rw [if_neg (show ¬ (x : Int) < 366 by omega), ex, ey]
        exact ⟨K, d, r1, r2, by omega⟩
theorem dateOfK (x : Nat) (hx : x ≤ 40000) (k : Nat) (hk : 200 ≤ k) : ∃ K d, impl_DateOf.f k (x : Int) = some (dateK K d) ∧ d < kl K ∧ ms K + d = x := by
  obtain ⟨K, d, r1, r2, r3⟩ := yearsK 110 0 k x (by omega) (by omega) (by omega)
  refine ⟨K, d, ?_, r2, by rw [r3, Nat.mul_zero, ms_zero, Nat.zero_add]⟩
  unfold impl_DateOf.f impl_isDay.f
  rw [between_eq, Option.bind_some, Option.bind_some, if_pos (decide_eq_true (by omega))]
  simpa using r1
theorem dayMonths (j : Nat) (hj : j ≤ 1000) (dd : Int) (m : Nat) (hm : m ≤ 12) : ∀ (c i k n : Nat), i + c = m → 1 ≤ i → c + 1 < k → n ≤ 1000000 → n + 31 * c ≤ 1000000 →
    impl_DayOf.l1 k (n : Int) (i : Int) (2000 + (j : Int)) (m : Int) dd = some (if n + (ms (12 * j + (m - 1)) - ms (12 * j + (i - 1))) ≤ 40000 then ((n + (ms (12 * j + (m - 1)) - ms (12 * j + (i - 1))) : Nat) : Int) else -1) := by
  intro c
  induction c with
  | zero =>
    intro i k n hi h1 hk hn _
    obtain ⟨k, rfl⟩ : ∃ q, k = q + 1 := ⟨k - 1, by omega⟩
    obtain rfl : i = m := by omega
    rw [impl_DayOf.l1, if_neg (by omega), Nat.sub_self, Nat.add_zero]
    unfold impl_isDay.f
    rw [between_eq, Option.bind_some, Option.bind_some]
    by_cases h : n ≤ 40000
    · rw [if_pos (decide_eq_true (by omega)), if_pos h]
    · rw [if_neg (by rw [decide_eq_true_eq]; omega), if_neg h]
  | succ c ih =>
    intro i k n hi h1 hk hn hn2
    obtain ⟨k, rfl⟩ : ∃ q, k = q + 1 := ⟨k - 1, by omega⟩
    have h12 : i ≤ 12 := by omega
    have him : (i : Int) < (m : Int) := by omega
    have hd := daysOf_ml (2000 + (j : Int)) i h1 h12
    have hr := ml_range (lp (2000 + (j : Int))) i
    have hkl := kl_year j (i - 1) (by omega)
    rw [show i - 1 + 1 = i by omega] at hkl
    have hms := ms_succ (12 * j + (i - 1))
    have e9 : 12 * j + (i - 1) + 1 = 12 * j + i := by clear hkl hms hr hd ih; omega
    have e8 : 12 * j + i + (m - 1 - i) = 12 * j + (m - 1) := by clear hkl hms hr hd ih; omega
    rw [hkl, e9] at hms
    clear hkl e9
    generalize ml (lp (2000 + (j : Int))) i = q at hr hms hd
    have hmo := ms_mono (m - 1 - i) (12 * j + i)
    rw [e8] at hmo
    have h5 : n + q + 31 * c ≤ 1000000 := by clear hms hmo hd ih; omega
    have h6 : n + q ≤ 1000000 := by clear hms hmo hd ih; omega
    have h7 : i + 1 + c = m := by clear hms hmo hd ih; omega
    have h8 : 1 ≤ i + 1 := by clear hms hmo hd ih; omega
    have h9 : c + 1 < k := by clear hms hmo hd ih; omega
    have e1 : wrap64 ((i : Int) + 1) = ((i + 1 : Nat) : Int) := by clear hms hmo hd ih; rw [w64 (by omega) (by omega)]; omega
    have e2 : wrap64 ((n : Int) + ((q : Nat) : Int)) = ((n + q : Nat) : Int) := by clear e1 hms hmo hd ih; rw [w64 (by omega) (by omega)]; omega
    rw [impl_DayOf.l1, if_pos him, hd, Option.bind_some, e1, e2, ih (i + 1) k (n + q) h7 h8 h9 h6 h5]
    have e3 : n + q + (ms (12 * j + (m - 1)) - ms (12 * j + (i + 1 - 1))) = n + (ms (12 * j + (m - 1)) - ms (12 * j + (i - 1))) := by
      clear ih e2 e1 hd
      rw [Nat.add_sub_cancel]
      generalize ms (12 * j + (m - 1)) = a at hms hmo ⊢
      generalize ms (12 * j + (i - 1)) = b at hms hmo ⊢
      generalize ms (12 * j + i) = c at hms hmo ⊢
      omega
    rw [e3]
theorem dayYears (J : Nat) (hJ : J ≤ 200) (dd : Int) (m : Nat) (hm1 : 1 ≤ m) (hm : m ≤ 12) : ∀ (c j k n : Nat), j + c = J → c + 20 < k → n + 366 * c ≤ 200000 →
    impl_DayOf.l0 k (n : Int) (2000 + (j : Int)) (2000 + (J : Int)) (m : Int) dd = some (if n + (ms (12 * J + (m - 1)) - ms (12 * j)) ≤ 40000 then ((n + (ms (12 * J + (m - 1)) - ms (12 * j)) : Nat) : Int) else -1) := by
  intro c
  induction c with
  | zero =>
    intro j k n hj hk hn
    obtain ⟨k, rfl⟩ : ∃ q, k = q + 1 := ⟨k - 1, by omega⟩
    obtain rfl : j = J := by omega
    have h := dayMonths j (by omega) dd m hm (m - 1) 1 k n (by omega) (by omega) (by omega) (by omega) (by omega)
    rw [impl_DayOf.l0, if_neg (by omega)]
    exact h
  | succ c ih =>
    intro j k n hj hk hn
    obtain ⟨k, rfl⟩ : ∃ q, k = q + 1 := ⟨k - 1, by omega⟩
    have hy := ms_year j
    have hmo := ms_mono (12 * J + (m - 1) - 12 * (j + 1)) (12 * (j + 1))
    rw [show 12 * (j + 1) + (12 * J + (m - 1) - 12 * (j + 1)) = 12 * J + (m - 1) by omega] at hmo
    rw [impl_DayOf.l0, if_pos (show 2000 + (j : Int) < 2000 + (J : Int) by omega), lp_eq, Option.bind_some, show wrap64 (2000 + (j : Int) + 1) = 2000 + ((j + 1 : Nat) : Int) by rw [w64 (by omega) (by omega)]; omega]
    cases hb : lp (2000 + (j : Int))
    · rw [hb, if_neg (by simp)] at hy
      rw [if_neg (by simp), show wrap64 ((n : Int) + 365) = ((n + 365 : Nat) : Int) by rw [w64 (by omega) (by omega)]; omega, ih (j + 1) k _ (by omega) (by omega) (by omega), show n + 365 + (ms (12 * J + (m - 1)) - ms (12 * (j + 1))) = n + (ms (12 * J + (m - 1)) - ms (12 * j)) by omega]
    · rw [hb, if_pos rfl] at hy
      rw [if_pos rfl, show wrap64 (wrap64 ((n : Int) + 365) + 1) = ((n + 366 : Nat) : Int) by rw [w64 (x := (n : Int) + 365) (by omega) (by omega), w64 (by omega) (by omega)]; omega, ih (j + 1) k _ (by omega) (by omega) (by omega), show n + 366 + (ms (12 * J + (m - 1)) - ms (12 * (j + 1))) = n + (ms (12 * J + (m - 1)) - ms (12 * j)) by omega]
theorem dayOfK (K d : Nat) (hK : K < 2412) (hd : d < kl K) (k : Nat) (hk : 300 ≤ k) : impl_DayOf.f k (dateK K d).1 (dateK K d).2.1 (dateK K d).2.2 = some (if ms K + d ≤ 40000 then ((ms K + d : Nat) : Int) else -1) := by
  obtain ⟨k, rfl⟩ : ∃ q, k = q + 1 := ⟨k - 1, by omega⟩
  unfold impl_DayOf.f dateK
  dsimp only
  have hkl : kl K = ml (lp (2000 + ((K / 12 : Nat) : Int))) (K % 12 + 1) := rfl
  have hr := kl_range K
  rw [between_eq, Option.bind_some, if_pos (decide_eq_true (by omega)), between_eq, Option.bind_some, if_pos (decide_eq_true (by omega)), daysOf_ml _ _ (by omega) (by omega), ← hkl, Option.bind_some, between_eq, Option.bind_some, decide_eq_true (show (1 : Int) ≤ ((d + 1 : Nat) : Int) ∧ ((d + 1 : Nat) : Int) ≤ ((kl K : Nat) : Int) by omega)]
  rw [show (!true) = false from rfl, impl_DayOf.j0, if_neg (by simp)]
  have e : wrap64 (((d + 1 : Nat) : Int) - 1) = (d : Int) := by rw [w64 (by omega) (by omega)]; omega
  have h := dayYears (K / 12) (by omega) ((d + 1 : Nat) : Int) (K % 12 + 1) (by omega) (by omega) (K / 12) 0 k d (by omega) (by omega) (by omega)
  rw [e]
  rw [show 12 * (K / 12) + (K % 12 + 1 - 1) = K by omega, show ms (12 * 0) = 0 by rw [Nat.mul_zero, ms_zero], Nat.sub_zero, Nat.add_comm d (ms K)] at h
  exact h
theorem monthEndK (x K d : Nat) (hx : x ≤ 40000) (k : Nat) (hk : 300 ≤ k) (hD : impl_DateOf.f k (x : Int) = some (dateK K d)) (hd : d < kl K) (hs : ms K + d = x) : impl_MonthEnd.f k (x : Int) = some (if ms K + kl K - 1 ≤ 40000 then ((ms K + kl K - 1 : Nat) : Int) else -1) := by
  have hr := kl_range K
  have hl := ms_le K
  unfold impl_MonthEnd.f
  rw [hD, Option.bind_some]
  have h := dayOfK K (kl K - 1) (by omega) (by omega) k hk
  unfold dateK at h ⊢
  dsimp only at h ⊢
  have hkl : kl K = ml (lp (2000 + ((K / 12 : Nat) : Int))) (K % 12 + 1) := rfl
  rw [show (2000 + ((K / 12 : Nat) : Int) == 0) = false by rw [beq_eq_false_iff_ne]; omega, Bool.false_and, if_neg (by simp), daysOf_ml _ _ (by omega) (by omega), ← hkl, Option.bind_some]
  rw [show kl K - 1 + 1 = kl K by omega, show ms K + (kl K - 1) = ms K + kl K - 1 by omega] at h
  rw [h]
  rfl

theorem and255 (n : Int) : 0 ≤ Go.bits .and .i64 n 255 ∧ Go.bits .and .i64 n 255 ≤ 255 := by
  have h : Go.bits .and .i64 n 255 = IntKind.i64.wrap ((BitVec.ofInt 64 n &&& BitVec.ofInt 64 255).toNat : Int) := rfl
  have hb : (BitVec.ofInt 64 n &&& BitVec.ofInt 64 255).toNat ≤ 255 := by
    rw [BitVec.toNat_and]
    exact Nat.le_trans Nat.and_le_right (by decide)
  rw [h]
  generalize (BitVec.ofInt 64 n &&& BitVec.ofInt 64 255).toNat = m at hb
  have : IntKind.i64.wrap (m : Int) = (m : Int) := by
    rw [IntKind.wrap_i64]; omega
  rw [this]
  omega
theorem new_ok (L : List Int) : ∀ (d i : Nat) (s : Int) (k : Nat), i + d = 4000 → d < k → ∃ t, spec_l1New.l0 k L s (i : Int) = some (L, 0, t) := by
  intro d
  induction d with
  | zero =>
    intro i s k hi hk
    obtain ⟨k, rfl⟩ : ∃ q, k = q + 1 := ⟨k - 1, by omega⟩
    refine ⟨s, ?_⟩
    rw [spec_l1New.l0, if_neg (show ¬ (i : Int) < 4000 by omega)]
    split <;> rfl
  | succ d ih =>
    intro i s k hi hk
    obtain ⟨k, rfl⟩ : ∃ q, k = q + 1 := ⟨k - 1, by omega⟩
    rw [spec_l1New.l0]
    by_cases h : (i : Int) < (L.length : Int)
    · have e : wrap64 ((i : Int) + 1) = ((i + 1 : Nat) : Int) := by rw [w64 (by omega) (by omega)]; omega
      rw [if_pos h, if_pos (show (i : Int) < 4000 by omega), if_pos (Int.natCast_nonneg i), e]
      exact ih (i + 1) _ k (by omega) (by omega)
    · exact ⟨s, by rw [if_neg h]⟩
theorem l1New_ok (L : List Int) (k : Nat) (hk : 4001 ≤ k) : ∃ t, spec_l1New.f k L = some (L, 0, t) := by
  unfold spec_l1New.f
  exact new_ok L 4000 0 _ k (by omega) (by omega)
theorem byte_ok (L : List Int) (i s : Int) (hL : L.length ≤ maxLen) (h0 : 0 ≤ i) (hi : i ≤ L.length) : ∃ v j t, spec_l1Byte.f L i s = some (v, j, t) ∧ 0 ≤ v ∧ v ≤ 255 ∧ 0 ≤ j ∧ j ≤ L.length := by
  have hm : maxLen ≤ 9223372036854775807 := by rw [maxLen_eq]; omega
  unfold spec_l1Byte.f
  by_cases h : i < (L.length : Int)
  · have e : wrap64 (i + 1) = i + 1 := w64 (by omega) (by omega)
    rw [if_pos h, if_pos h0, e]
    exact ⟨_, _, _, rfl, (and255 _).1, (and255 _).2, by omega, by omega⟩
  · rw [if_neg h]
    exact ⟨_, _, _, rfl, (and255 _).1, (and255 _).2, by omega, by omega⟩
theorem below_ok (L : List Int) (i s n : Int) (hL : L.length ≤ maxLen) (h0 : 0 ≤ i) (hi : i ≤ L.length) : ∃ v j t, spec_l1Below.f L i s n = some (v, j, t) ∧ 0 ≤ v ∧ (0 < n → v < n) ∧ 0 ≤ j ∧ j ≤ L.length := by
  unfold spec_l1Below.f
  by_cases hn : n ≤ 0
  · rw [if_pos hn]
    exact ⟨_, _, _, rfl, by omega, fun h => by omega, h0, hi⟩
  · rw [if_neg hn]
    have tm : ∀ z : Int, 0 ≤ z → 0 ≤ Int.tmod z n ∧ Int.tmod z n < n := by
      intro z hz
      rw [Int.tmod_eq_emod_of_nonneg hz]
      exact ⟨Int.emod_nonneg _ (by omega), Int.emod_lt_of_pos _ (by omega)⟩
    by_cases h2 : n ≤ 256
    · obtain ⟨v, j, t, e, v0, v1, j0, j1⟩ := byte_ok L i s hL h0 hi
      rw [if_pos h2, e, Option.bind_some, if_neg (by omega)]
      exact ⟨_, _, _, rfl, (tm v v0).1, fun _ => (tm v v0).2, j0, j1⟩
    · obtain ⟨v, j, t, e, v0, v1, j0, j1⟩ := byte_ok L i s hL h0 hi
      obtain ⟨v', j', t', e', v0', v1', j0', j1'⟩ := byte_ok L j t hL j0 j1
      obtain ⟨v2, j2, t2, e2, v02, v12, j02, j12⟩ := byte_ok L j' t' hL j0' j1'
      obtain ⟨v3, j3, t3, e3, v03, v13, j03, j13⟩ := byte_ok L j2 t2 hL j02 j12
      rw [if_neg h2, e, Option.bind_some]
      dsimp only
      rw [e', Option.bind_some]
      dsimp only
      rw [e2, Option.bind_some]
      dsimp only
      rw [e3, Option.bind_some, if_neg (by omega)]
      dsimp only
      have w : wrap64 (wrap64 (wrap64 (wrap64 (v * 16777216) + wrap64 (v' * 65536)) + wrap64 (v2 * 256)) + v3) = v * 16777216 + v' * 65536 + v2 * 256 + v3 := by
        rw [w64 (x := v * 16777216) (by omega) (by omega), w64 (x := v' * 65536) (by omega) (by omega), w64 (x := v2 * 256) (by omega) (by omega), w64 (x := v * 16777216 + v' * 65536) (by omega) (by omega), w64 (x := v * 16777216 + v' * 65536 + v2 * 256) (by omega) (by omega), w64 (by omega) (by omega)]
      rw [w]
      have tz := tm (v * 16777216 + v' * 65536 + v2 * 256 + v3) (by omega)
      exact ⟨_, _, _, rfl, tz.1, fun _ => tz.2, j03, j13⟩

theorem once_ok (L : List Int) (i s n : Int) (hL : L.length ≤ maxLen) (h0 : 0 ≤ i) (hi : i ≤ L.length) : ∃ (b : Bool) (j t : Int), spec_l1Once.f L i s n = some (b, j, t) ∧ 0 ≤ j ∧ j ≤ L.length := by
  unfold spec_l1Once.f
  obtain ⟨v, j, t, e, _, _, j0, j1⟩ := below_ok L i s n hL h0 hi
  rw [e, Option.bind_some]
  exact ⟨_, _, _, rfl, j0, j1⟩

theorem rd_mem (l : List Int) (v : Int) (h0 : 0 ≤ v) (h1 : v < (l.length : Int)) : rd l v ∈ l := by
  obtain ⟨n, rfl⟩ : ∃ n : Nat, v = n := ⟨v.toNat, by omega⟩
  have hn : n < l.length := by omega
  have : rd l (n : Int) = l[n]'hn := by
    unfold rd
    simp [hn]
  rw [this]
  exact List.getElem_mem hn

theorem pickInt_ok (L l : List Int) (i s : Int) (hL : L.length ≤ maxLen) (h0 : 0 ≤ i) (hi : i ≤ L.length) (hl : 0 < l.length) : ∃ v j t, spec_l1PickInt.f L i s l = some (v, j, t) ∧ v ∈ l ∧ 0 ≤ j ∧ j ≤ L.length := by
  unfold spec_l1PickInt.f
  obtain ⟨v, j, t, e, v0, v1, j0, j1⟩ := below_ok L i s (l.length : Int) hL h0 hi
  have v2 := v1 (by omega)
  rw [e, Option.bind_some]
  dsimp only
  rw [if_pos v0, if_pos v2]
  exact ⟨_, _, _, rfl, rd_mem l v v0 v2, j0, j1⟩

theorem spoil_ok (L l : List Int) (i s a : Int) (hL : L.length ≤ maxLen) (h0 : 0 ≤ i) (hi : i ≤ L.length) (hl : 0 < l.length) : ∃ v j t, spec_l1Spoil.f L i s a l = some (v, j, t) ∧ (v = a ∨ v ∈ l) ∧ 0 ≤ j ∧ j ≤ L.length := by
  unfold spec_l1Spoil.f
  obtain ⟨b, j, t, e, j0, j1⟩ := once_ok L i s 40 hL h0 hi
  rw [e, Option.bind_some]
  dsimp only
  cases b
  · rw [if_neg (by simp)]
    exact ⟨_, _, _, rfl, .inl rfl, j0, j1⟩
  · rw [if_pos rfl]
    obtain ⟨v, j', t', e', hv, j0', j1'⟩ := pickInt_ok L l j t hL j0 j1 hl
    rw [e', Option.bind_some]
    exact ⟨_, _, _, rfl, .inr hv, j0', j1'⟩

theorem drawDay_ok (L : List Int) (i s : Int) (hL : L.length ≤ maxLen) (h0 : 0 ≤ i) (hi : i ≤ L.length) : ∃ v j t, spec_l2DrawDay.f L i s = some (v, j, t) ∧ 0 ≤ j ∧ j ≤ L.length := by
  unfold spec_l2DrawDay.f
  obtain ⟨v, j, t, e, _, _, j0, j1⟩ := below_ok L i s 10 hL h0 hi
  rw [e, Option.bind_some]
  dsimp only
  by_cases h1 : v = 0
  · obtain ⟨v', j', t', e', _, _, j0', j1'⟩ := below_ok L j t 40001 hL j0 j1
    rw [if_pos h1, e', Option.bind_some]
    exact ⟨_, _, _, rfl, j0', j1'⟩
  · rw [if_neg h1]
    by_cases h2 : v = 1
    · obtain ⟨v', j', t', e', _, j0', j1'⟩ := pickInt_ok L [0, 1, 30, 31, 58, 59, 60, 365, 366, 36524, 40000, 39999] j t hL j0 j1 (by decide)
      rw [if_pos h2, e', Option.bind_some]
      exact ⟨_, _, _, rfl, j0', j1'⟩
    · obtain ⟨v', j', t', e', _, _, j0', j1'⟩ := below_ok L j t 1500 hL j0 j1
      rw [if_neg h2, e', Option.bind_some]
      exact ⟨_, _, _, rfl, j0', j1'⟩
theorem drawDateOf_ok (L : List Int) (hL : L.length ≤ maxLen) (k : Nat) (hk : 4001 ≤ k) : ∃ v, spec_DrawDateOf.f k L = some v := by
  unfold spec_DrawDateOf.f spec_l2BadDay.f
  obtain ⟨t, e⟩ := l1New_ok L k hk
  rw [e, Option.bind_some]
  dsimp only
  obtain ⟨v, j, t, e, j0, j1⟩ := drawDay_ok L 0 t hL (by omega) (by omega)
  rw [e, Option.bind_some]
  dsimp only
  obtain ⟨v', j', t', e', _, _, _⟩ := spoil_ok L [(-1), 40001, (-9223372036854775808)] j t v hL j0 j1 (by decide)
  rw [e', Option.bind_some, Option.bind_some]
  exact ⟨_, rfl⟩
theorem weekday_eq (x : Nat) (hx : x ≤ 40000) : impl_Weekday.f (x : Int) = some (((x + 5) % 7 : Nat) : Int) := by
  unfold impl_Weekday.f impl_isDay.f
  rw [between_eq, Option.bind_some, Option.bind_some, if_pos (decide_eq_true (by omega)), w64 (by omega) (by omega), Int.tmod_eq_emod_of_nonneg (by omega)]
  congr 1
theorem FnDatesBack : ∀ (l0 : List Int), (l0.length ≤ maxLen ∧ ∀ x ∈ l0, (Lit.int .u8 x).wf = true) → ∃ k, laws_FnDatesBack.f k l0 = some true := by
  intro l0 ⟨hl, _⟩
  obtain ⟨d, hd⟩ := drawDateOf_ok l0 hl 5001 (by omega)
  refine ⟨5001, ?_⟩
  have h60 : impl_DayOf.f 5001 2000 3 1 = some 60 := by
    have h := dayOfK 2 0 (by omega) (by have := kl_range 2; omega) 5001 (by omega)
    have e : ms 2 = 60 := by rw [show (2 : Nat) = 0 + 1 + 1 from rfl, ms_succ, ms_succ, ms_zero]; rfl
    rw [e, if_pos (by omega)] at h
    exact h
  unfold laws_FnDatesBack.f laws_big.f
  rw [Option.bind_some]
  by_cases hb : decide ((l0.length : Int) > 1048576) = true
  · rw [if_pos hb]
  · rw [if_neg hb, hd, Option.bind_some, h60, Option.bind_some, if_pos rfl]
    have no : ∀ x, laws_FnDatesBack.j0 (5000 + 1) x true = some true := by intro x; rw [laws_FnDatesBack.j0, if_pos rfl]
    by_cases h0 : d < 0
    · rw [if_pos h0]; exact no d
    · rw [if_neg h0]
      by_cases h1 : d ≥ 39960
      · rw [decide_eq_true h1]; exact no d
      · rw [decide_eq_false h1]
        obtain ⟨x, rfl⟩ : ∃ x : Nat, d = x := ⟨d.toNat, by omega⟩
        have hx : x < 39960 := by omega
        clear hd hb h0 h1
        obtain ⟨K, q, e1, hq, hs⟩ := dateOfK x (by omega) 5000 (by omega)
        have hr := kl_range K
        have hr2 := kl_range (K + 1)
        have hl := ms_le K
        have e2 := monthEndK x K q (by omega) 5000 (by omega) e1 hq hs
        rw [if_pos (by omega)] at e2
        obtain ⟨K2, q2, e3, hq2, hs2⟩ := dateOfK (ms K + kl K) (by omega) 5000 (by omega)
        obtain ⟨rfl, rfl⟩ := ms_one K2 (K + 1) q2 0 hq2 (by omega) (by rw [ms_succ]; omega)
        obtain ⟨K3, q3, e4, hq3, hs3⟩ := dateOfK (ms K + kl K - 1) (by omega) 5000 (by omega)
        obtain ⟨rfl, rfl⟩ := ms_one K3 K q3 (kl K - 1) hq3 (by omega) (by omega)
        have e5 := dayOfK K3 q (by omega) hq 5000 (by omega)
        rw [if_pos (by omega), hs] at e5
        show laws_FnDatesBack.j0 (5000 + 1) (x : Int) false = some true
        rw [laws_FnDatesBack.j0, if_neg (by simp), e1, Option.bind_some, e2, Option.bind_some]
        rw [show wrap64 (((ms K3 + kl K3 - 1 : Nat) : Int) + 1) = ((ms K3 + kl K3 : Nat) : Int) by rw [w64 (by omega) (by omega)]; omega]
        rw [e3, Option.bind_some, e5, Option.bind_some, if_pos rfl]
        rw [show wrap64 ((x : Int) + 1) = ((x + 1 : Nat) : Int) by rw [w64 (by omega) (by omega)]; omega]
        rw [weekday_eq (x + 1) (by omega), Option.bind_some, weekday_eq x (by omega), Option.bind_some]
        rw [show wrap64 (((((x + 5) % 7 : Nat)) : Int) + 1) = (((x + 5) % 7 + 1 : Nat) : Int) by rw [w64 (by omega) (by omega)]; omega]
        rw [Int.tmod_eq_emod_of_nonneg (by omega), if_pos (show ((((x + 1) + 5) % 7 : Nat) : Int) = (((x + 5) % 7 + 1 : Nat) : Int) % 7 by omega), w64 (x := (x : Int) + 31) (by omega) (by omega)]
        rw [if_pos (show ((ms K3 + kl K3 - 1 : Nat) : Int) ≥ (x : Int) by omega), if_pos (show ((ms K3 + kl K3 - 1 : Nat) : Int) < (x : Int) + 31 by omega)]
        unfold dateK
        dsimp only
        rw [if_pos (show ((0 + 1 : Nat) : Int) = 1 by omega), e4, Option.bind_some]
        unfold dateK
        simp

end Go.Proofs.YteeanacmhclnoaaDoor.Pure
