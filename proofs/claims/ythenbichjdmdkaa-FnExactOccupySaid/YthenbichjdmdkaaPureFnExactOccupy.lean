/- The program's Occupy answers as the reference's at every machine, hour and number of hours. Conditions: none. -/
import Derived.Test.YthenbichjdmdkaaPFnExactOccupyx0
import Derived.Test.YthenbichjdmdkaaPFnExactOccupyx1
import Derived.Test.YthenbichjdmdkaaPFnExactOccupyx2
import Derived.Test.YthenbichjdmdkaaPureAid
import Derived.Test.YthenbichjdmdkaaWMore
namespace Go.Proofs.Ythenbichjdmdkaa.Pure
open Go Go.RowKit Go.Proofs.Ythenbichjdmdkaa.PFnExactOccupy Go.Proofs.YthenbichjdmdkaaW.PrintWords Go.Proofs.YthenbichjdmdkaaW.PrintLast Go.Proofs.Ythenbichjdmdkaa.Aid
set_option linter.unusedVariables false
set_option linter.unusedSimpArgs false
set_option maxRecDepth 100000
/-- The one pure statement of the law. -/
def laws_FnExactOccupy.Pure : Prop := ∀ (a0_0 : Int) (a0_1 : Int) (a0_2 : Int) (a1 : Int) (a2 : Int), (Lit.int .i64 a0_0).wf = true → (Lit.int .i64 a0_1).wf = true → (Lit.int .i64 a0_2).wf = true → (Lit.int .i64 a1).wf = true → (Lit.int .i64 a2).wf = true → ∃ k, laws_FnExactOccupy.f k a0_0 a0_1 a0_2 a1 a2 = some true
theorem occ_in (o s t : Int) (h0 : 0 ≤ o) (h1 : o < s) (h2 : s ≤ 24) (ht : 0 ≤ t) : spec_l1In.f (Int.tmod t 24) o (wrap64 (s - 1)) = some (decide (o ≤ t % 24 ∧ t % 24 < s)) := by
  have e : Int.tmod t 24 = t % 24 := Int.tmod_eq_emod_of_nonneg ht
  have ew : wrap64 (s - 1) = s - 1 := by unfold wrap64; omega
  unfold spec_l1In.f
  rw [e, ew]
  by_cases h : t % 24 ≥ o
  · rw [if_pos h]
    congr 1
    rw [decide_eq_decide]
    omega
  · rw [if_neg h]
    congr 1
    symm
    rw [decide_eq_false_iff_not]
    omega
theorem occ_w1 (t : Int) (h0 : 0 ≤ t) (h1 : t ≤ 1000000000) : wrap64 (t + 1) = t + 1 := by unfold wrap64; omega
theorem occ_w2 (t : Int) (h0 : 0 ≤ t) (h1 : t ≤ 1000000000) : wrap64 (t - 1) = t - 1 := by unfold wrap64; omega
theorem occ_g1 (o s t : Int) (h0 : 0 ≤ o) (h1 : o < s) (h2 : s ≤ 24) (h : ¬ (o ≤ t % 24 ∧ t % 24 < s)) : (o - (t + 1)) % 24 = (o - t) % 24 - 1 := by omega
theorem occ_tail (o s u b : Int) (h0 : 0 ≤ o) (h1 : o < s) (h2 : s ≤ 24) : ∀ (n k : Nat) (x2 x9 t : Int), 5000 < t → 0 ≤ x2 → x2 * 24 + (o - t) % 24 < n → t + n ≤ 1000000 → (x2 = 0 → 5000 < x9) → n < k → spec_Occupy.l1 k x2 b x9 t o s u = some (-1, -1) := by
  intro n
  induction n with
  | zero => intro k x2 x9 t ht hx hm; omega
  | succ n ih =>
    intro k x2 x9 t ht hx hm hb h9 hk
    obtain ⟨k, rfl⟩ : ∃ m, k = m + 1 := ⟨k - 1, by omega⟩
    rw [spec_Occupy.l1]
    by_cases hp : x2 > 0
    · rw [if_pos hp, occ_in o s t h0 h1 h2 (by omega)]
      simp only [Option.bind_some, decide_eq_true_eq]
      by_cases hc : o ≤ t % 24 ∧ t % 24 < s
      · rw [if_pos hc, occ_w1 t (by omega) (by omega), occ_w2 x2 (by omega) (by omega)]
        exact ih k _ _ _ (by omega) (by omega) (by omega) (by omega) (by intro; omega) (by omega)
      · rw [if_neg hc, occ_w1 t (by omega) (by omega)]
        have := occ_g1 o s t h0 h1 h2 hc
        exact ih k _ _ _ (by omega) (by omega) (by omega) (by omega) (by omega) (by omega)
    · rw [if_neg hp, if_pos (h9 (by omega))]
def occ_fin (st : OccSt) : Int × Int := if st.s < 0 ∨ 5000 < st.s then (-1, -1) else (st.b, st.s)
theorem occ_L_end (o s t : Int) (h : 5000 < t) : impl_openHours.L o s (5001 - t).toNat t = [] := impl_openHours.L_stop o s t h
theorem occ_one (o s u b hours : Int) (h0 : 0 ≤ o) (h1 : o < s) (h2 : s ≤ 24) (hb : 0 ≤ b) (hh : ¬ hours = 0) : ∀ (n k : Nat) (x2 x9 t : Int), 0 ≤ t → 1 ≤ x2 → x2 * 24 + (o - t) % 24 < n → t + n ≤ 1000000 → n + 1 < k →
    spec_Occupy.l1 k x2 b x9 t o s u = some (occ_fin ((impl_openHours.L o s (5001 - t).toNat t).foldl (OccSt.step hours) ⟨b, x2, 0, -1, -1⟩)) := by
  intro n
  induction n with
  | zero => intro k x2 x9 t ht hx hm; omega
  | succ n ih =>
    intro k x2 x9 t ht hx hm hbd hk
    by_cases ht5 : 5000 < t
    · rw [occ_L_end o s t ht5, occ_tail o s u b h0 h1 h2 (n + 1) k x2 x9 t ht5 (by omega) (by omega) (by omega) (by omega) (by omega)]
      rfl
    · obtain ⟨k, rfl⟩ : ∃ m, k = m + 1 := ⟨k - 1, by omega⟩
      rw [spec_Occupy.l1, if_pos (by omega), occ_in o s t h0 h1 h2 ht]
      simp only [Option.bind_some, decide_eq_true_eq]
      by_cases hc : o ≤ t % 24 ∧ t % 24 < s
      · rw [if_pos hc, occ_w1 t (by omega) (by omega), occ_w2 x2 (by omega) (by omega), impl_openHours.L_yes o s t (by omega) hc.1 hc.2, List.foldl_cons]
        by_cases hx1 : x2 = 1
        · subst hx1
          rw [OccSt.step_exit (by simpa using hh) (by rw [occ_w2 1 (by omega) (by omega)]; rfl), OccSt.foldl_done _ _ (by simp), occ_w1 t (by omega) (by omega)]
          obtain ⟨k, rfl⟩ : ∃ m, k = m + 1 := ⟨k - 1, by omega⟩
          rw [spec_Occupy.l1, if_neg (by omega)]
          unfold occ_fin
          simp only []
          by_cases h5 : t + 1 > 5000
          · rw [if_pos h5, if_pos (.inr h5)]
          · rw [if_neg h5, if_neg (by omega), if_neg (by omega)]
        · rw [OccSt.step_on (by simpa using hh) (by rw [occ_w2 x2 (by omega) (by omega)]; simp; omega), if_neg (by omega), occ_w2 x2 (by omega) (by omega)]
          exact ih k _ _ _ (by omega) (by omega) (by omega) (by omega) (by omega)
      · rw [if_neg hc, occ_w1 t (by omega) (by omega), impl_openHours.L_no o s t (by omega) hc]
        have := occ_g1 o s t h0 h1 h2 hc
        exact ih k _ _ _ (by omega) (by omega) (by omega) (by omega) (by omega)
def occ_res (st : OccSt) : Int × Int := if st.k = 1 then (st.r, st.s) else occ_fin st
theorem occ_kfin (hours : Int) (hh : ¬ hours = 0) : ∀ (xs : List Int) (st : OccSt), st.k ≠ 1 → (xs.foldl (OccSt.step hours) st).k ≠ 1 := by
  intro xs
  induction xs with
  | nil => intro st h; exact h
  | cons x xs ih =>
    intro st h
    rw [List.foldl_cons]
    refine ih _ ?_
    unfold OccSt.step
    split
    · exact h
    · first | rw [if_neg hh] | skip
      split
      · simp
      · exact h
theorem occ_zero (o s u hours : Int) (h0 : 0 ≤ o) (h1 : o < s) (h2 : s ≤ 24) (hh : 0 ≤ hours ∧ hours ≤ 1000) : ∀ (n k : Nat) (h : Int), 0 ≤ h → (o - h) % 24 < n → h + n ≤ 6100 → n + 30000 < k →
    spec_Occupy.l0 k hours h o s u = some (occ_res ((impl_openHours.L o s (5001 - h).toNat h).foldl (OccSt.step hours) ⟨-1, hours, 0, -1, -1⟩)) := by
  intro n
  induction n with
  | zero => intro k h hh0 hm; omega
  | succ n ih =>
    intro k h hh0 hm hbd hk
    obtain ⟨k, rfl⟩ : ∃ m, k = m + 1 := ⟨k - 1, by omega⟩
    rw [spec_Occupy.l0, occ_in o s h h0 h1 h2 hh0]
    simp only [Option.bind_some, decide_eq_true_eq]
    by_cases hc : o ≤ h % 24 ∧ h % 24 < s
    · rw [if_pos hc]
      by_cases h5 : 5000 < h
      · rw [occ_L_end o s h h5, occ_tail o s u h h0 h1 h2 (24 * 1000 + 25) k hours h h h5 hh.1 (by omega) (by omega) (by omega) (by omega)]
        rfl
      · rw [impl_openHours.L_yes o s h (by omega) hc.1 hc.2, List.foldl_cons]
        by_cases hz : hours = 0
        · subst hz
          rw [OccSt.step_ret rfl, OccSt.foldl_done _ _ (by simp)]
          obtain ⟨k, rfl⟩ : ∃ m, k = m + 1 := ⟨k - 1, by omega⟩
          rw [spec_Occupy.l1, if_neg (by omega), if_neg (by omega)]
          rfl
        · have e := occ_one o s u h hours h0 h1 h2 hh0 hz (24 * 1000 + 25) k hours h h hh0 (by omega) (by omega) (by omega) (by omega)
          rw [e, impl_openHours.L_yes o s h (by omega) hc.1 hc.2, List.foldl_cons]
          have es : OccSt.step hours ⟨-1, hours, 0, -1, -1⟩ h = OccSt.step hours ⟨h, hours, 0, -1, -1⟩ h := by
            by_cases hw : (wrap64 (hours - 1) == 0) = true
            · rw [OccSt.step_exit (by simpa using hz) hw, OccSt.step_exit (by simpa using hz) hw, if_pos (by omega), if_neg (by omega)]
            · have hw' : (wrap64 (hours - 1) == 0) = false := by simpa using hw
              rw [OccSt.step_on (by simpa using hz) hw', OccSt.step_on (by simpa using hz) hw', if_pos (by omega), if_neg (by omega)]
          rw [es]
          unfold occ_res
          rw [if_neg]
          refine occ_kfin hours hz _ _ ?_
          unfold OccSt.step
          rw [if_neg (by simp), if_neg hz]
          split <;> simp
    · rw [if_neg hc, occ_w1 h (by omega) (by omega)]
      have hg := occ_g1 o s h h0 h1 h2 hc
      rw [ih k (h + 1) (by omega) (by omega) (by omega) (by omega)]
      by_cases h5 : 5000 < h
      · rw [occ_L_end o s h h5, occ_L_end o s (h + 1) (by omega)]
      · rw [impl_openHours.L_no o s h (by omega) hc]
theorem occ_l1 (x a b : Int) : spec_l1In.f x a b = some (decide (a ≤ x ∧ x ≤ b)) := by
  unfold spec_l1In.f
  by_cases h : x ≥ a
  · rw [if_pos h]; congr 1; rw [decide_eq_decide]; omega
  · rw [if_neg h]; congr 1; symm; rw [decide_eq_false_iff_not]; omega
theorem occ_mach (o s u : Int) : spec_l19Machine.f o s u = some (decide ((0 ≤ o ∧ o < s ∧ s ≤ 24) ∧ (0 ≤ u ∧ u ≤ 100))) := by
  unfold spec_l19Machine.f
  rw [occ_l1, occ_l1, occ_l1]
  simp only [Option.bind_some, decide_eq_true_eq]
  by_cases h : 0 ≤ o ∧ o ≤ 23
  · have hw : wrap64 (o + 1) = o + 1 := by unfold wrap64; omega
    rw [if_pos h, hw]
    by_cases h2 : o + 1 ≤ s ∧ s ≤ 24
    · rw [if_pos h2]; congr 1; rw [decide_eq_decide]; omega
    · rw [if_neg h2]; congr 1; symm; rw [decide_eq_false_iff_not]; omega
  · rw [if_neg h]; congr 1; symm; rw [decide_eq_false_iff_not]; omega
theorem FnExactOccupy : laws_FnExactOccupy.Pure := by
  intro o s u a1 a2 _ _ _ _ _
  refine ⟨100000, ?_⟩
  unfold laws_FnExactOccupy.f laws_toMachine.f
  simp only [Option.bind_some]
  have hspec : spec_Occupy.f 100000 o s u a1 a2 = impl_Occupy.f o s u a1 a2 := by
    unfold spec_Occupy.f impl_Occupy.f spec_l19Hour.f
    have hj : ∀ x y, spec_Occupy.j0 100000 x y true o s u = some (-1, -1) := fun x y => by rw [spec_Occupy.j0, if_pos rfl]
    rw [occ_mach, occ_l1, occ_l1]
    simp only [Option.bind_some, decide_eq_true_eq]
    by_cases c1 : (0 ≤ o ∧ o < s ∧ s ≤ 24) ∧ (0 ≤ u ∧ u ≤ 100)
    · rw [if_pos c1]
      by_cases c3 : 0 ≤ a1 ∧ a1 ≤ 5000
      · rw [if_pos c3]
        by_cases c4 : 0 ≤ a2 ∧ a2 ≤ 1000
        · rw [if_pos ⟨c1.1, c1.2, c3, c4⟩, decide_eq_true c4]
          rw [spec_Occupy.j0, if_neg (by decide), occ_zero o s u a2 c1.1.1 c1.1.2.1 c1.1.2.2 c4 25 99999 a1 c3.1 (by omega) (by omega) (by omega)]
          unfold occ_res occ_fin OccSt.run
          split
          · rfl
          · split <;> rfl
        · rw [if_neg (fun h => c4 h.2.2.2), decide_eq_false c4]
          exact hj _ _
      · rw [if_neg c3, if_neg (fun h => c3 h.2.2.1)]
        exact hj _ _
    · rw [if_neg c1, if_neg (fun h => c1 ⟨h.1, h.2.1⟩)]
      exact hj _ _
  rw [hspec]
  have hs : ∃ r, impl_Occupy.f o s u a1 a2 = some r := by
    unfold impl_Occupy.f
    split
    · split
      · exact ⟨_, rfl⟩
      · split <;> exact ⟨_, rfl⟩
    · exact ⟨_, rfl⟩
  obtain ⟨r, hr⟩ := hs
  rw [hr]
  simp

end Go.Proofs.Ythenbichjdmdkaa.Pure
