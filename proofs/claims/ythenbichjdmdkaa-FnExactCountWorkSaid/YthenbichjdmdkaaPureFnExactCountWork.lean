/- The program's CountWork answers as the reference's at every calendar and pair of days, and the calendar reads as before. Conditions: none. -/
import Derived.Test.YthenbichjdmdkaaPFnExactCountWorkx0
import Derived.Test.YthenbichjdmdkaaPFnExactCountWorkx1
import Derived.Test.YthenbichjdmdkaaPFnExactCountWorkx2
import Derived.Test.YthenbichjdmdkaaPFnExactCountWorkx3
import Derived.Test.YthenbichjdmdkaaPFnExactCountWorkx4
import Derived.Test.YthenbichjdmdkaaPureAid
import Derived.Test.YthenbichjdmdkaaWMore
namespace Go.Proofs.Ythenbichjdmdkaa.Pure
open Go Go.RowKit Go.Proofs.Ythenbichjdmdkaa.PFnExactCountWork Go.Proofs.YthenbichjdmdkaaW.PrintWords Go.Proofs.YthenbichjdmdkaaW.PrintLast Go.Proofs.Ythenbichjdmdkaa.Aid
set_option linter.unusedVariables false
set_option linter.unusedSimpArgs false
set_option maxRecDepth 100000
/-- The one pure statement of the law. -/
def laws_FnExactCountWork.Pure : Prop := ∀ (a0_0 : Int) (l0_1 : List Int) (a1 : Int) (a2 : Int), (Lit.int .i64 a0_0).wf = true → (l0_1.length ≤ maxLen ∧ ∀ x ∈ l0_1, (Lit.int .i64 x).wf = true) → (Lit.int .i64 a1).wf = true → (Lit.int .i64 a2).wf = true → ∃ k, laws_FnExactCountWork.f k a0_0 l0_1 a1 a2 = some true
theorem two_dec (a b : Prop) [Decidable a] [Decidable b] : (if a then some (decide b) else some false) = some (decide (a ∧ b)) := by
  by_cases h : a
  · rw [if_pos h]; congr 1; rw [decide_eq_decide]; exact ⟨fun hb => ⟨h, hb⟩, fun hb => hb.2⟩
  · rw [if_neg h]; congr 1; symm; rw [decide_eq_false_iff_not]; exact fun hb => h hb.1

theorem l1In_eq (a b c : Int) : spec_l1In.f a b c = some (decide (b ≤ a ∧ a ≤ c)) := by unfold spec_l1In.f; exact two_dec (a ≥ b) (a ≤ c)

theorem l2Day_eq (a : Int) : spec_l2Day.f a = some (decide (0 ≤ a ∧ a ≤ 40000)) := by unfold spec_l2Day.f; rw [l1In_eq]; rfl

theorem between_eq (a b c : Int) : impl_between.f a b c = some (decide (b ≤ a ∧ a ≤ c)) := by unfold impl_between.f; exact two_dec (a ≥ b) (a ≤ c)

theorem isDay_eq (a : Int) : impl_isDay.f a = some (decide (0 ≤ a ∧ a ≤ 40000)) := by unfold impl_isDay.f; rw [between_eq]; rfl

def calStop (l : List Int) (i : Nat) : Option Bool := if (0 ≤ rd l i ∧ rd l i ≤ 40000) ∧ (0 < i → rd l (((i - 1 : Nat) : Nat) : Int) < rd l i) then none else some false
/-- What a calendar is. -/
def calOk (o : Int) (l : List Int) : Bool := decide (0 ≤ o ∧ o ≤ 126) && decide (l.length ≤ 400) && scan (calStop l) true l.length 0
theorem prev_w (i : Nat) (h : 0 < i) (hi : i ≤ 9223372036854775807) : wrap64 ((i : Int) - 1) = ((i - 1 : Nat) : Int) := by unfold wrap64; omega
theorem calSpec_step (k : Nat) (o : Int) (l : List Int) (i : Nat) (hi : i < l.length) (hl : l.length ≤ 9223372036854775807) :
    spec_CalOk.l0 (k + 1) (i : Int) o l = match calStop l i with | some r => some r | none => spec_CalOk.l0 k ((i + 1 : Nat) : Int) o l := by
  simp only [spec_CalOk.l0]
  rw [if_pos (by omega), if_pos (by omega), w64i hi hl, l2Day_eq]
  simp only [Option.bind_some, decide_eq_true_eq]
  unfold calStop
  by_cases h1 : 0 ≤ rd l i ∧ rd l i ≤ 40000
  · rw [if_pos h1]
    by_cases h2 : 0 < i
    · rw [if_pos (by omega), prev_w i h2 (by omega), if_pos (by omega), if_pos (by omega)]
      by_cases h3 : rd l (((i - 1 : Nat) : Nat) : Int) < rd l i
      · rw [if_neg (by omega), if_pos ⟨h1, fun _ => h3⟩]
      · rw [if_pos (by omega), if_neg (fun h => h3 (h.2 h2))]
    · rw [if_neg (by omega), if_pos ⟨h1, fun h => absurd h h2⟩]
  · rw [if_neg h1, if_neg (fun h => h1 h.1)]
theorem calSpec_eq (o : Int) (l : List Int) (hl : l.length ≤ 9223372036854775807) (k : Nat) (hk : l.length + 1 < k) : spec_CalOk.f k o l = some (calOk o l) := by
  obtain ⟨k, rfl⟩ : ∃ m, k = m + 1 := ⟨k - 1, by omega⟩
  unfold spec_CalOk.f calOk
  rw [l1In_eq]
  simp only [Option.bind_some, spec_CalOk.j0, decide_eq_true_eq, if_true]
  by_cases h1 : 0 ≤ o ∧ o ≤ 126
  · rw [if_pos h1, decide_eq_true h1]
    by_cases h2 : (l.length : Int) > 400
    · rw [if_pos h2, decide_eq_false (by omega)]; rfl
    · rw [if_neg h2, decide_eq_true (by omega)]
      simp only [Bool.true_and]
      refine loop_scan0 (fun k i => spec_CalOk.l0 k i o l) l.length 0 (calStop l) true ?_ ?_ ?_ k (by omega)
      · intro k i r _ hi hs; rw [calSpec_step k o l i hi hl, hs]
      · intro k i _ hi hs; rw [calSpec_step k o l i hi hl, hs]
      · intro k _
        simp only [spec_CalOk.l0]
        rw [if_neg (by omega)]
  · rw [if_neg h1, decide_eq_false h1]; rfl
theorem calImpl_step (k : Nat) (o : Int) (l : List Int) (i : Nat) (hi : i < l.length) (hl : l.length ≤ 9223372036854775807) :
    impl_CalOk.l0 (k + 1) l (l.length : Int) (i : Int) o l = match calStop l i with | some r => some r | none => impl_CalOk.l0 k l (l.length : Int) ((i + 1 : Nat) : Int) o l := by
  simp only [impl_CalOk.l0]
  rw [if_pos (by omega), if_pos (by omega), if_pos (by omega), w64i hi hl, isDay_eq]
  simp only [Option.bind_some, decide_eq_true_eq]
  unfold calStop
  by_cases h1 : 0 ≤ rd l i ∧ rd l i ≤ 40000
  · rw [if_pos h1]
    by_cases h2 : 0 < i
    · rw [if_pos (by omega), prev_w i h2 (by omega), if_pos (by omega), if_pos (by omega)]
      by_cases h3 : rd l (((i - 1 : Nat) : Nat) : Int) < rd l i
      · rw [if_neg (by omega), if_pos ⟨h1, fun _ => h3⟩]
      · rw [if_pos (by omega), if_neg (fun h => h3 (h.2 h2))]
    · rw [if_neg (by omega), if_pos ⟨h1, fun h => absurd h h2⟩]
  · rw [if_neg h1, if_neg (fun h => h1 h.1)]
theorem calImpl_eq (o : Int) (l : List Int) (hl : l.length ≤ 9223372036854775807) (k : Nat) (hk : l.length + 1 < k) : impl_CalOk.f k o l = some (calOk o l) := by
  obtain ⟨k, rfl⟩ : ∃ m, k = m + 1 := ⟨k - 1, by omega⟩
  unfold impl_CalOk.f calOk
  rw [between_eq]
  simp only [Option.bind_some, impl_CalOk.j0, decide_eq_true_eq, if_true]
  by_cases h1 : 0 ≤ o ∧ o ≤ 126
  · rw [if_pos h1, decide_eq_true h1]
    by_cases h2 : (l.length : Int) > 400
    · rw [if_pos h2, decide_eq_false (by omega)]; rfl
    · rw [if_neg h2, decide_eq_true (by omega)]
      simp only [Bool.true_and]
      refine loop_scan0 (fun k i => impl_CalOk.l0 k l (l.length : Int) i o l) l.length 0 (calStop l) true ?_ ?_ ?_ k (by omega)
      · intro k i r _ hi hs; rw [calImpl_step k o l i hi hl, hs]
      · intro k i _ hi hs; rw [calImpl_step k o l i hi hl, hs]
      · intro k _
        simp only [impl_CalOk.l0]
        rw [if_neg (by omega)]
  · rw [if_neg h1, decide_eq_false h1]; rfl

theorem calOk_sorted (o : Int) (l : List Int) (h : calOk o l = true) : l.length ≤ 400 ∧ ∀ i j : Nat, i < j → j < l.length → rd l (i : Nat) < rd l (j : Nat) := by
  unfold calOk at h
  rw [Bool.and_eq_true, Bool.and_eq_true, decide_eq_true_eq, decide_eq_true_eq] at h
  refine ⟨h.1.2, ?_⟩
  have hs : ∀ j, j < l.length → calStop l j = none := by
    rcases scan_cases (calStop l) true l.length 0 with ⟨j, r, _, _, h3, _, h5⟩ | ⟨h1, _⟩
    · rw [h.2] at h5
      unfold calStop at h3
      split at h3
      · cases h3
      · rw [← h5] at h3; cases h3
    · intro j hj; exact h1 j (by omega) (by omega)
  have step : ∀ j, j + 1 < l.length → rd l (j : Nat) < rd l ((j + 1 : Nat) : Int) := by
    intro j hj
    have h4 := hs (j + 1) hj
    unfold calStop at h4
    split at h4
    · rename_i hc
      have := hc.2 (by omega)
      simpa using this
    · cases h4
  intro i j hij
  induction j with
  | zero => omega
  | succ j ih =>
    intro hj
    rcases Nat.lt_succ_iff_lt_or_eq.1 hij with h5 | h5
    · have := ih h5 (by omega)
      have := step j hj
      omega
    · subst h5; exact step i hj
def offB (o d : Int) : Bool := (Go.bits .and .i64 (shr .i64 o (IntKind.u64.wrap (Int.tmod (wrap64 (d + 5)) 7))) 1) == 1
/-- Is a day, of those that there are, a working day? -/
def workB (o : Int) (l : List Int) (d : Int) : Bool := !offB o d && decide (∀ j, j < l.length → rd l (j : Nat) ≠ d)
theorem u64_pos (x : Int) : 0 ≤ IntKind.u64.wrap x := by rw [IntKind.wrap_u64]; omega
theorem l2Work_eq (o : Int) (l : List Int) (d : Int) (hd : 0 ≤ d ∧ d ≤ 40000) (hl : l.length ≤ 9223372036854775807) (k : Nat) (hk : l.length + 1 ≤ k) : spec_l2Work.f k o l d = some (workB o l d) := by
  unfold spec_l2Work.f spec_Weekday.f workB
  rw [l2Day_eq]
  simp only [Option.bind_some]
  rw [if_pos (decide_eq_true hd)]
  simp only [Option.bind_some]
  rw [if_pos (u64_pos _)]
  by_cases hb : offB o d = true
  · rw [hb]
    unfold offB at hb
    rw [beq_iff_eq] at hb
    rw [if_pos hb]; rfl
  · have hb2 := hb
    rw [Bool.not_eq_true] at hb2
    rw [hb2]
    unfold offB at hb
    rw [beq_iff_eq] at hb
    rw [if_neg hb]
    simp only [Bool.not_false, Bool.true_and]
    rw [loop_scanM0 (fun k i => spec_l2Work.l0 k d i o l) l.length 0 1 (fun i => if (!decide (rd l i = d)) = true then none else some false) true ?_ ?_ k (by omega)]
    · congr 1
      rw [Bool.eq_iff_iff, decide_eq_true_eq, scan_all (p := fun i => !decide (rd l (i : Nat) = d))]
      constructor
      · intro h j hj; have := h j (by omega) (by omega); simpa using this
      · intro h j _ hj; have := h j (by omega); simpa using this
    · intro k i _ hi
      simp only [spec_l2Work.l0]
      rw [if_pos (by omega), if_pos (by omega), w64i hi hl, goOn_if]
      by_cases h : rd l i = d
      · rw [if_pos h, decide_eq_true h]; rfl
      · rw [if_neg h, decide_eq_false h]; rfl
    · intro k _
      simp only [spec_l2Work.l0]
      rw [if_neg (by omega)]
theorem search_eq (o : Int) (l : List Int) (d : Int) (hl : l.length ≤ 400) (hs : ∀ i j : Nat, i < j → j < l.length → rd l (i : Nat) < rd l (j : Nat)) : ∀ (k lo hi : Nat), lo ≤ hi → hi ≤ l.length → hi - lo + 1 ≤ k → (∀ j, j < lo → rd l (j : Nat) < d) → (∀ j, hi ≤ j → j < l.length → d ≤ rd l (j : Nat)) →
    impl_works.l0 k d (lo : Int) (hi : Int) o l = some (decide (∀ j, j < l.length → rd l (j : Nat) ≠ d)) := by
  intro k
  induction k with
  | zero => intro lo hi _ _ h; omega
  | succ k ih =>
    intro lo hi h1 h2 hk hlo hhi
    simp only [impl_works.l0]
    by_cases hlt : lo < hi
    · have e : wrap64 (Int.tdiv (wrap64 ((lo : Int) + (hi : Int))) 2) = (((lo + hi) / 2 : Nat) : Int) := by
        rw [w64 (x := (lo : Int) + hi) (by omega) (by omega), Int.tdiv_eq_ediv_of_nonneg (by omega), w64 (by omega) (by omega)]
        omega
      rw [if_pos (by omega), e, if_pos (by omega), if_pos (by omega)]
      have hm : (lo + hi) / 2 < l.length := by omega
      by_cases hc : rd l (((lo + hi) / 2 : Nat) : Int) < d
      · rw [if_pos hc, w64i hm (by omega)]
        refine ih ((lo + hi) / 2 + 1) hi (by omega) h2 (by omega) (fun j hj => ?_) hhi
        rcases Nat.lt_succ_iff_lt_or_eq.1 hj with h | h
        · have := hs j _ h hm; omega
        · subst h; exact hc
      · rw [if_neg hc]
        refine ih lo ((lo + hi) / 2) (by omega) (by omega) (by omega) hlo (fun j hj hjl => ?_)
        rcases Nat.eq_or_lt_of_le hj with h | h
        · subst h; omega
        · have := hs _ j h hjl; omega
    · rw [if_neg (by omega)]
      obtain rfl : lo = hi := by omega
      by_cases he : lo = l.length
      · rw [if_pos (by omega)]
        congr 1
        symm
        rw [decide_eq_true_eq]
        intro j hj
        have := hlo j (by omega)
        omega
      · rw [if_neg (by omega), if_pos (by omega), if_pos (by omega)]
        congr 1
        rw [Bool.eq_iff_iff, bne_iff_ne, decide_eq_true_eq]
        constructor
        · intro h j hj
          rcases Nat.lt_trichotomy j lo with h3 | h3 | h3
          · have := hlo j h3; omega
          · subst h3; exact h
          · have := hs lo j h3 hj
            have := hhi lo (Nat.le_refl _) (by omega)
            omega
        · intro h; exact h lo (by omega)
theorem works_eq (o : Int) (l : List Int) (d : Int) (hc : calOk o l = true) (k : Nat) (hk : 500 ≤ k) : impl_works.f k o l d = some (decide (0 ≤ d ∧ d ≤ 40000) && workB o l d) := by
  obtain ⟨hl, hs⟩ := calOk_sorted o l hc
  obtain ⟨k, rfl⟩ : ∃ m, k = m + 1 := ⟨k - 1, by omega⟩
  unfold impl_works.f impl_Weekday.f workB
  rw [isDay_eq]
  simp only [Option.bind_some, impl_works.j0]
  by_cases hd : 0 ≤ d ∧ d ≤ 40000
  · rw [decide_eq_true hd, if_pos rfl, if_pos rfl]
    simp only [Option.bind_some]
    rw [if_pos (u64_pos _)]
    show (if offB o d = true then _ else _) = _
    by_cases hb : offB o d = true
    · rw [if_pos hb, hb]; rfl
    · rw [if_neg hb]
      rw [Bool.not_eq_true] at hb
      rw [hb]
      have := search_eq o l d hl hs k 0 l.length (by omega) (Nat.le_refl _) (by omega) (fun j hj => by omega) (fun j h1 h2 => by omega)
      simp only [Bool.not_false, Bool.true_and]
      exact this
  · rw [decide_eq_false hd]; rfl

/-- The working days from d on, by steps, n at the most. -/
def wl (o : Int) (l : List Int) (step : Int) : Nat → Int → List Int
  | 0, _ => []
  | n + 1, d => if 0 ≤ d ∧ d ≤ 40000 then (if workB o l d = true then d :: wl o l step n (d + step) else wl o l step n (d + step)) else []
def wmu (step d : Int) : Nat := if step = 1 then (40001 - d).toNat else (d + 1).toNat
theorem wmu_step {step d : Int} (hs : step = 1 ∨ step = -1) (hd : 0 ≤ d ∧ d ≤ 40000) : wmu step (d + step) < wmu step d := by
  unfold wmu
  rcases hs with rfl | rfl
  · rw [if_pos rfl, if_pos rfl]; omega
  · rw [if_neg (by decide), if_neg (by decide)]; omega
theorem wmu_le {step d : Int} (hd : -1 ≤ d ∧ d ≤ 40001) : wmu step d ≤ 40002 := by
  unfold wmu
  split <;> omega
theorem L_eq (o : Int) (l : List Int) (step : Int) (hc : calOk o l = true) (hs : step = 1 ∨ step = -1) (k : Nat) (hk : 500 ≤ k) : ∀ (n : Nat) (d : Int), wmu step d < n → impl_workdays.L k o l step n d = some (wl o l step n d) := by
  intro n
  induction n with
  | zero => intro d h; omega
  | succ n ih =>
    intro d h
    rw [impl_workdays.L, wl]
    by_cases hd : 0 ≤ d ∧ d ≤ 40000
    · have := wmu_step hs hd
      rw [if_pos hd, if_pos hd, works_eq o l d hc k hk, decide_eq_true hd, Bool.true_and]
      simp only [Option.bind_some]
      rw [ih _ (by omega)]
      simp only [Option.bind_some]
      split <;> rfl
    · rw [if_neg hd, if_neg hd]
theorem wl_stable (o : Int) (l : List Int) (step : Int) (hs : step = 1 ∨ step = -1) : ∀ (n n' : Nat) (d : Int), wmu step d < n → wmu step d < n' → wl o l step n d = wl o l step n' d := by
  intro n
  induction n with
  | zero => intro n' d h; omega
  | succ n ih =>
    intro n' d h h'
    obtain ⟨n', rfl⟩ : ∃ m, n' = m + 1 := ⟨n' - 1, by omega⟩
    rw [wl, wl]
    by_cases hd : 0 ≤ d ∧ d ≤ 40000
    · have := wmu_step hs hd
      rw [if_pos hd, if_pos hd, ih n' (d + step) (by omega) (by omega)]
    · rw [if_neg hd, if_neg hd]

theorem szIntS_eq (l : List Int) (a : Int) (h0 : -9223372036854775808 ≤ a - l.length) (h1 : a - l.length ≤ 9223372036854775807) : laws_szIntS.f l a = some (if a - (l.length : Int) < 0 then (-1 : Int) else a - (l.length : Int)) := by
  unfold laws_szIntS.f
  rw [w64 h0 h1]
  split <;> rfl

theorem toIntS_eq (l : List Int) (hl : l.length ≤ 35184372088832) (k : Nat) (hk : l.length < k) : laws_toIntS.f k l = some l := by
  unfold laws_toIntS.f
  rw [if_pos (by omega), if_pos (by omega)]
  have h := loop_fill0 (fun k acc i => laws_toIntS.l0 k l acc i) l id 0 ?_ ?_ k (by omega) (List.replicate ((l.length : Int) : Int).toNat 0) (by simp)
  · rw [List.map_id] at h; exact h
  · intro k acc i x _ hi ha hx
    simp only [laws_toIntS.l0]
    rw [if_pos (by omega), if_pos (by omega), if_pos (by omega), w64i hi (by omega)]
    unfold rd
    rw [getD_of hx, Int.toNat_natCast]
    rfl
  · intro k acc _
    simp only [laws_toIntS.l0]
    rw [if_neg (by omega)]

theorem eqIntS_refl (l : List Int) (hl : l.length ≤ 9223372036854775807) (k : Nat) (hk : l.length < k) : laws_eqIntS.f k l l = some true := by
  unfold laws_eqIntS.f
  rw [if_pos rfl, loop_scan0 (fun k i => laws_eqIntS.l0 k l l i) l.length 0 (fun _ => none) true ?_ ?_ ?_ k (by omega), scan_false _ _ (fun _ _ _ => rfl)]
  · intro k i r _ hi h
    cases h
  · intro k i _ hi h
    simp only [laws_eqIntS.l0]
    rw [if_pos (by omega), if_pos (by omega), if_pos (by omega), if_pos trivial, w64i hi (by omega)]
  · intro k _
    simp only [laws_eqIntS.l0]
    rw [if_neg (by omega)]

theorem szCal_eq (o : Int) (l : List Int) (hl : l.length ≤ 9223372036854775807) : laws_szCal.f o l 1048576 = some (if (1048576 : Int) - (l.length : Int) < 0 then (-1 : Int) else 1048576 - (l.length : Int)) := by
  unfold laws_szCal.f
  rw [szIntS_eq l _ (by omega) (by omega)]
  simp only [Option.bind_some]
  by_cases h : (1048576 : Int) - l.length < 0
  · rw [if_pos h]; rfl
  · rw [if_neg h, if_neg h]
theorem toCal_eq (o : Int) (l : List Int) (hl : l.length ≤ 35184372088832) (k : Nat) (hk : l.length < k) : laws_toCal.f k o l = some (o, l) := by
  unfold laws_toCal.f
  rw [toIntS_eq l hl k hk]; rfl
theorem eqCal_refl (o : Int) (l : List Int) (hl : l.length ≤ 9223372036854775807) (k : Nat) (hk : l.length < k) : laws_eqCal.f k o l o l = some true := by
  unfold laws_eqCal.f
  rw [if_pos rfl, eqIntS_refl l hl k hk]; rfl

theorem cw_far (o : Int) (l : List Int) (hi c : Int) : ∀ (m : Nat) (d : Int), hi < d → ((wl o l 1 m d).foldl (CwSt.step hi) ⟨c, 0⟩).n = c := by
  intro m
  induction m with
  | zero => intro d _; rfl
  | succ m ih =>
    intro d hd
    rw [wl]
    by_cases h : 0 ≤ d ∧ d ≤ 40000
    · rw [if_pos h]
      cases workB o l d
      · rw [if_neg (by decide)]; exact ih _ (by omega)
      · rw [if_pos rfl, List.foldl_cons, CwSt.step_stop hd, CwSt.foldl_done _ _ (by simp)]
    · rw [if_neg h]; rfl
theorem count_spec (o : Int) (l : List Int) (hl : l.length ≤ 400) (hi : Int) (hh : hi ≤ 40000) : ∀ (m k : Nat) (d c : Int), 0 ≤ d → d ≤ 40001 → wmu 1 d < m → 0 ≤ c → c + m ≤ 1000000 → m + l.length + 10 < k →
    ∃ r, spec_CountWork.l0 k hi c d o l = some r ∧ ((wl o l 1 m d).foldl (CwSt.step hi) ⟨c, 0⟩).n = r ∧ 0 ≤ r ∧ r ≤ 1000000 := by
  intro m
  induction m with
  | zero => intro k d c _ _ h; omega
  | succ m ih =>
    intro k d c h0 h1 hm hc hb hk
    obtain ⟨k, rfl⟩ : ∃ m, k = m + 1 := ⟨k - 1, by omega⟩
    rw [spec_CountWork.l0]
    by_cases hd : d ≤ hi
    · have hr : 0 ≤ d ∧ d ≤ 40000 := ⟨h0, by omega⟩
      have hmu := wmu_step (step := 1) (.inl rfl) hr
      have w1 : wrap64 (d + 1) = d + 1 := by unfold wrap64; omega
      have w2 : wrap64 (c + 1) = c + 1 := by unfold wrap64; omega
      rw [if_pos hd, l2Work_eq o l d hr (by omega) k (by omega), wl, if_pos hr, w1, w2]
      simp only [Option.bind_some]
      cases workB o l d
      · rw [if_neg (by decide), if_neg (by decide)]
        exact ih k (d + 1) c (by omega) (by omega) (by omega) hc (by omega) (by omega)
      · rw [if_pos rfl, if_pos rfl, List.foldl_cons, CwSt.step_on (by omega), w2]
        exact ih k (d + 1) (c + 1) (by omega) (by omega) (by omega) (by omega) (by omega) (by omega)
    · rw [if_neg hd]
      exact ⟨c, rfl, cw_far o l hi c _ d (by omega), hc, by omega⟩
theorem count_up (o : Int) (l : List Int) (a b : Int) (hc : calOk o l = true) (ha : 0 ≤ a ∧ a ≤ 40000) (hb : 0 ≤ b ∧ b ≤ 40000) (hab : a ≤ b) (hl : l.length ≤ 1048576) (k k' : Nat) (hk : 1200000 ≤ k) (hk' : 1200000 ≤ k') :
    ∃ r, spec_CountWork.f k o l a b = some r ∧ (CwSt.run b (wl o l 1 k' (a + 1))).n = r ∧ 0 ≤ r ∧ r ≤ 1000000 := by
  obtain ⟨k, rfl⟩ : ∃ m, k = m + 2 := ⟨k - 2, by omega⟩
  obtain ⟨h400, _⟩ := calOk_sorted o l hc
  have w1 : wrap64 (a + 1) = a + 1 := by unfold wrap64; omega
  rw [spec_CountWork.f, calSpec_eq _ _ (by omega) _ (by omega), hc]
  simp only [Option.bind_some, if_true]
  rw [l2Day_eq, decide_eq_true ha, l2Day_eq, decide_eq_true hb]
  simp only [Option.bind_some, if_true]
  rw [spec_CountWork.j0, if_neg (by decide), if_neg (by omega), w1]
  have hm : wmu 1 (a + 1) ≤ 40002 := wmu_le ⟨by omega, by omega⟩
  obtain ⟨r, h1, h2, h3, h4⟩ := count_spec o l h400 b hb.2 40003 k (a + 1) 0 (by omega) (by omega) (by omega) (by omega) (by omega) (by omega)
  refine ⟨r, h1, ?_, h3, h4⟩
  rw [← h2]
  unfold CwSt.run
  rw [wl_stable o l 1 (.inl rfl) k' 40003 _ (by omega) (by omega)]
theorem count_same (o : Int) (l : List Int) (a b : Int) (hl : l.length ≤ 1048576) (k : Nat) (hk : 2000000 ≤ k) : ∃ r, spec_CountWork.f k o l a b = some r ∧ impl_CountWork.f k o l a b = some r := by
  have hj : ∀ m, spec_CountWork.j0 (m + 1) a b true o l = some 0 := fun m => by rw [spec_CountWork.j0, if_pos rfl]
  unfold impl_CountWork.f
  rw [calImpl_eq _ _ (by omega) _ (by omega)]
  simp only [Option.bind_some]
  by_cases hall : calOk o l = true ∧ (0 ≤ a ∧ a ≤ 40000) ∧ (0 ≤ b ∧ b ≤ 40000)
  · rw [if_pos hall]
    obtain ⟨hc, ha, hb⟩ := hall
    have hlo : 0 ≤ cwLo a b ∧ cwLo a b ≤ 40000 := by unfold cwLo; split <;> assumption
    have hm : wmu 1 (cwLo a b + 1) ≤ 40002 := wmu_le ⟨by omega, by omega⟩
    rw [L_eq o l 1 hc (.inl rfl) k (by omega) k _ (by omega)]
    simp only [Option.bind_some]
    by_cases hab : b < a
    · obtain ⟨k, rfl⟩ : ∃ m, k = m + 2 := ⟨k - 2, by omega⟩
      obtain ⟨r, h1, h2, h3, h4⟩ := count_up o l b a hc hb ha (by omega) hl k (k + 2) (by omega) (by omega)
      have e1 : cwLo a b = b := by unfold cwLo; rw [if_pos hab]
      have e2 : cwHi a b = a := by unfold cwHi; rw [if_pos hab]
      have e3 : cwSign a b = -1 := by unfold cwSign; rw [if_pos hab]
      rw [e1, e2, e3, h2]
      refine ⟨_, ?_, rfl⟩
      rw [spec_CountWork.f, calSpec_eq _ _ (by omega) _ (by omega), hc]
      simp only [Option.bind_some, if_true]
      rw [l2Day_eq, decide_eq_true ha, l2Day_eq, decide_eq_true hb]
      simp only [Option.bind_some, if_true]
      rw [spec_CountWork.j0, if_neg (by decide), if_pos hab, h1]
      simp only [Option.bind_some]
      rw [show -1 * r = -r by omega]
    · obtain ⟨r, h1, h2, h3, h4⟩ := count_up o l a b hc ha hb (by omega) hl k k (by omega) (by omega)
      have e1 : cwLo a b = a := by unfold cwLo; rw [if_neg hab]
      have e2 : cwHi a b = b := by unfold cwHi; rw [if_neg hab]
      have e3 : cwSign a b = 1 := by unfold cwSign; rw [if_neg hab]
      rw [e1, e2, e3, h2]
      refine ⟨r, h1, ?_⟩
      have : wrap64 (1 * r) = r := by unfold wrap64; omega
      rw [this]
  · rw [if_neg hall]
    refine ⟨0, ?_, rfl⟩
    obtain ⟨k, rfl⟩ : ∃ m, k = m + 2 := ⟨k - 2, by omega⟩
    rw [spec_CountWork.f, calSpec_eq _ _ (by omega) _ (by omega)]
    simp only [Option.bind_some]
    cases hc : calOk o l
    · rw [if_neg (by decide)]; exact hj _
    · rw [if_pos rfl, l2Day_eq]
      simp only [Option.bind_some]
      by_cases ha : 0 ≤ a ∧ a ≤ 40000
      · rw [if_pos (decide_eq_true ha), l2Day_eq]
        simp only [Option.bind_some]
        have hb : ¬ (0 ≤ b ∧ b ≤ 40000) := fun hb => hall ⟨hc, ha, hb⟩
        rw [decide_eq_false hb]
        exact hj _
      · rw [if_neg (by rw [decide_eq_true_eq]; exact ha)]
        exact hj _
theorem FnExactCountWork : laws_FnExactCountWork.Pure := by
  intro o l a b _ ⟨hl, _⟩ _ _
  rw [maxLen_eq] at hl
  obtain ⟨k, hk⟩ : ∃ k, k = l.length + 3000000 := ⟨_, rfl⟩
  refine ⟨k, ?_⟩
  unfold laws_FnExactCountWork.f
  rw [szCal_eq o l hl]
  simp only [Option.bind_some]
  by_cases h : (1048576 : Int) - l.length < 0
  · rw [if_pos h]; rfl
  · rw [if_neg h, if_neg h, toCal_eq o l (by omega) _ (by omega)]
    simp only [Option.bind_some]
    obtain ⟨r, h1, h2⟩ := count_same o l a b (by omega) k (by omega)
    rw [h1, h2]
    simp only [Option.bind_some, if_true]
    rw [eqCal_refl o l hl _ (by omega)]
    rfl

end Go.Proofs.Ythenbichjdmdkaa.Pure
