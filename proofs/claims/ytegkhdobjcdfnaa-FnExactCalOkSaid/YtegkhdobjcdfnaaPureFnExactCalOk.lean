/- The program's CalOk answers as the reference's at every calendar, which reads as before. Conditions: none. -/
import Derived.Test.YtegkhdobjcdfnaaPFnExactCalOkx0
import Derived.Test.YtegkhdobjcdfnaaPFnExactCalOkx1
import Derived.Test.YtegkhdobjcdfnaaPFnExactCalOkx2
import Derived.Test.YtegkhdobjcdfnaaPureAid
import Derived.Test.YtegkhdobjcdfnaaWMore
namespace Go.Proofs.Ytegkhdobjcdfnaa.Pure
open Go Go.RowKit Go.Proofs.Ytegkhdobjcdfnaa.PFnExactCalOk Go.Proofs.YtegkhdobjcdfnaaW.PrintWords Go.Proofs.YtegkhdobjcdfnaaW.PrintLast Go.Proofs.Ytegkhdobjcdfnaa.Aid
set_option linter.unusedVariables false
set_option linter.unusedSimpArgs false
set_option maxRecDepth 100000
/-- The one pure statement of the law. -/
def laws_FnExactCalOk.Pure : Prop := ∀ (a0_0 : Int) (l0_1 : List Int), (Lit.int .i64 a0_0).wf = true → (l0_1.length ≤ maxLen ∧ ∀ x ∈ l0_1, (Lit.int .i64 x).wf = true) → ∃ k, laws_FnExactCalOk.f k a0_0 l0_1 = some true
theorem two_dec (a b : Prop) [Decidable a] [Decidable b] : (if a then some (decide b) else some false) = some (decide (a ∧ b)) := by
  by_cases h : a
  · rw [if_pos h]; congr 1; rw [decide_eq_decide]; exact ⟨fun hb => ⟨h, hb⟩, fun hb => hb.2⟩
  · rw [if_neg h]; congr 1; symm; rw [decide_eq_false_iff_not]; exact fun hb => h hb.1

theorem l1In_eq (a b c : Int) : spec_l1In.f a b c = some (decide (b ≤ a ∧ a ≤ c)) := by unfold spec_l1In.f; exact two_dec (a ≥ b) (a ≤ c)

theorem l2Day_eq (a : Int) : spec_l2Day.f a = some (decide (0 ≤ a ∧ a ≤ 40000)) := by unfold spec_l2Day.f; rw [l1In_eq]; rfl

theorem between_eq (a b c : Int) : impl_between.f a b c = some (decide (b ≤ a ∧ a ≤ c)) := by unfold impl_between.f; exact two_dec (a ≥ b) (a ≤ c)

theorem isDay_eq (a : Int) : impl_isDay.f a = some (decide (0 ≤ a ∧ a ≤ 40000)) := by unfold impl_isDay.f; rw [between_eq]; rfl

def calStop (l : List Int) (i : Nat) : Option Bool := if (0 ≤ rd l i ∧ rd l i ≤ 40000) ∧ (0 < i → rd l (((i - 1 : Nat) : Nat) : Int) < rd l i) then none else some false
/-- What a calendar is. -/
def calOk (o : Int) (l : List Int) : Bool := decide (0 ≤ o ∧ o ≤ 126) && decide (l.length ≤ 400) && scan (calStop l) true l.length 0
theorem prev_w (i : Nat) (h : 0 < i) (hi : i ≤ 9223372036854775807) : wrap64 ((i : Int) - 1) = ((i - 1 : Nat) : Int) := by unfold wrap64; omega
theorem calSpec_step (k : Nat) (o : Int) (l : List Int) (i : Nat) (hi : i < l.length) (hl : l.length ≤ 9223372036854775807) :
    spec_CalOk.l0 (k + 1) (i : Int) o l = match calStop l i with | some r => some r | none => spec_CalOk.l0 k ((i + 1 : Nat) : Int) o l := by
  simp only [spec_CalOk.l0]
  rw [if_pos (by omega), if_pos (by omega), w64i hi hl, l2Day_eq]
  simp only [Option.bind_some, decide_eq_true_eq]
  unfold calStop
  by_cases h1 : 0 ≤ rd l i ∧ rd l i ≤ 40000
  · rw [if_pos h1]
    by_cases h2 : 0 < i
    · rw [if_pos (by omega), prev_w i h2 (by omega), if_pos (by omega), if_pos (by omega)]
      by_cases h3 : rd l (((i - 1 : Nat) : Nat) : Int) < rd l i
      · rw [if_neg (by omega), if_pos ⟨h1, fun _ => h3⟩]
      · rw [if_pos (by omega), if_neg (fun h => h3 (h.2 h2))]
    · rw [if_neg (by omega), if_pos ⟨h1, fun h => absurd h h2⟩]
  · rw [if_neg h1, if_neg (fun h => h1 h.1)]
theorem calSpec_eq (o : Int) (l : List Int) (hl : l.length ≤ 9223372036854775807) (k : Nat) (hk : l.length + 1 < k) : spec_CalOk.f k o l = some (calOk o l) := by
  obtain ⟨k, rfl⟩ : ∃ m, k = m + 1 := ⟨k - 1, by omega⟩
  unfold spec_CalOk.f calOk
  rw [l1In_eq]
  simp only [Option.bind_some, spec_CalOk.j0, decide_eq_true_eq, if_true]
  by_cases h1 : 0 ≤ o ∧ o ≤ 126
  · rw [if_pos h1, decide_eq_true h1]
    by_cases h2 : (l.length : Int) > 400
    · rw [if_pos h2, decide_eq_false (by omega)]; rfl
    · rw [if_neg h2, decide_eq_true (by omega)]
      simp only [Bool.true_and]
      refine loop_scan0 (fun k i => spec_CalOk.l0 k i o l) l.length 0 (calStop l) true ?_ ?_ ?_ k (by omega)
      · intro k i r _ hi hs; rw [calSpec_step k o l i hi hl, hs]
      · intro k i _ hi hs; rw [calSpec_step k o l i hi hl, hs]
      · intro k _
        simp only [spec_CalOk.l0]
        rw [if_neg (by omega)]
  · rw [if_neg h1, decide_eq_false h1]; rfl
theorem calImpl_step (k : Nat) (o : Int) (l : List Int) (i : Nat) (hi : i < l.length) (hl : l.length ≤ 9223372036854775807) :
    impl_CalOk.l0 (k + 1) l (l.length : Int) (i : Int) o l = match calStop l i with | some r => some r | none => impl_CalOk.l0 k l (l.length : Int) ((i + 1 : Nat) : Int) o l := by
  simp only [impl_CalOk.l0]
  rw [if_pos (by omega), if_pos (by omega), if_pos (by omega), w64i hi hl, isDay_eq]
  simp only [Option.bind_some, decide_eq_true_eq]
  unfold calStop
  by_cases h1 : 0 ≤ rd l i ∧ rd l i ≤ 40000
  · rw [if_pos h1]
    by_cases h2 : 0 < i
    · rw [if_pos (by omega), prev_w i h2 (by omega), if_pos (by omega), if_pos (by omega)]
      by_cases h3 : rd l (((i - 1 : Nat) : Nat) : Int) < rd l i
      · rw [if_neg (by omega), if_pos ⟨h1, fun _ => h3⟩]
      · rw [if_pos (by omega), if_neg (fun h => h3 (h.2 h2))]
    · rw [if_neg (by omega), if_pos ⟨h1, fun h => absurd h h2⟩]
  · rw [if_neg h1, if_neg (fun h => h1 h.1)]
theorem calImpl_eq (o : Int) (l : List Int) (hl : l.length ≤ 9223372036854775807) (k : Nat) (hk : l.length + 1 < k) : impl_CalOk.f k o l = some (calOk o l) := by
  obtain ⟨k, rfl⟩ : ∃ m, k = m + 1 := ⟨k - 1, by omega⟩
  unfold impl_CalOk.f calOk
  rw [between_eq]
  simp only [Option.bind_some, impl_CalOk.j0, decide_eq_true_eq, if_true]
  by_cases h1 : 0 ≤ o ∧ o ≤ 126
  · rw [if_pos h1, decide_eq_true h1]
    by_cases h2 : (l.length : Int) > 400
    · rw [if_pos h2, decide_eq_false (by omega)]; rfl
    · rw [if_neg h2, decide_eq_true (by omega)]
      simp only [Bool.true_and]
      refine loop_scan0 (fun k i => impl_CalOk.l0 k l (l.length : Int) i o l) l.length 0 (calStop l) true ?_ ?_ ?_ k (by omega)
      · intro k i r _ hi hs; rw [calImpl_step k o l i hi hl, hs]
      · intro k i _ hi hs; rw [calImpl_step k o l i hi hl, hs]
      · intro k _
        simp only [impl_CalOk.l0]
        rw [if_neg (by omega)]
  · rw [if_neg h1, decide_eq_false h1]; rfl

theorem szIntS_eq (l : List Int) (a : Int) (h0 : -9223372036854775808 ≤ a - l.length) (h1 : a - l.length ≤ 9223372036854775807) : laws_szIntS.f l a = some (if a - (l.length : Int) < 0 then (-1 : Int) else a - (l.length : Int)) := by
  unfold laws_szIntS.f
  rw [w64 h0 h1]
  split <;> rfl

theorem toIntS_eq (l : List Int) (hl : l.length ≤ 35184372088832) (k : Nat) (hk : l.length < k) : laws_toIntS.f k l = some l := by
  unfold laws_toIntS.f
  rw [if_pos (by omega), if_pos (by omega)]
  have h := loop_fill0 (fun k acc i => laws_toIntS.l0 k l acc i) l id 0 ?_ ?_ k (by omega) (List.replicate ((l.length : Int) : Int).toNat 0) (by simp)
  · rw [List.map_id] at h; exact h
  · intro k acc i x _ hi ha hx
    simp only [laws_toIntS.l0]
    rw [if_pos (by omega), if_pos (by omega), if_pos (by omega), w64i hi (by omega)]
    unfold rd
    rw [getD_of hx, Int.toNat_natCast]
    rfl
  · intro k acc _
    simp only [laws_toIntS.l0]
    rw [if_neg (by omega)]

theorem eqIntS_refl (l : List Int) (hl : l.length ≤ 9223372036854775807) (k : Nat) (hk : l.length < k) : laws_eqIntS.f k l l = some true := by
  unfold laws_eqIntS.f
  rw [if_pos rfl, loop_scan0 (fun k i => laws_eqIntS.l0 k l l i) l.length 0 (fun _ => none) true ?_ ?_ ?_ k (by omega), scan_false _ _ (fun _ _ _ => rfl)]
  · intro k i r _ hi h
    cases h
  · intro k i _ hi h
    simp only [laws_eqIntS.l0]
    rw [if_pos (by omega), if_pos (by omega), if_pos (by omega), if_pos trivial, w64i hi (by omega)]
  · intro k _
    simp only [laws_eqIntS.l0]
    rw [if_neg (by omega)]

theorem szCal_eq (o : Int) (l : List Int) (hl : l.length ≤ 9223372036854775807) : laws_szCal.f o l 1048576 = some (if (1048576 : Int) - (l.length : Int) < 0 then (-1 : Int) else 1048576 - (l.length : Int)) := by
  unfold laws_szCal.f
  rw [szIntS_eq l _ (by omega) (by omega)]
  simp only [Option.bind_some]
  by_cases h : (1048576 : Int) - l.length < 0
  · rw [if_pos h]; rfl
  · rw [if_neg h, if_neg h]
theorem toCal_eq (o : Int) (l : List Int) (hl : l.length ≤ 35184372088832) (k : Nat) (hk : l.length < k) : laws_toCal.f k o l = some (o, l) := by
  unfold laws_toCal.f
  rw [toIntS_eq l hl k hk]; rfl
theorem eqCal_refl (o : Int) (l : List Int) (hl : l.length ≤ 9223372036854775807) (k : Nat) (hk : l.length < k) : laws_eqCal.f k o l o l = some true := by
  unfold laws_eqCal.f
  rw [if_pos rfl, eqIntS_refl l hl k hk]; rfl

theorem FnExactCalOk : laws_FnExactCalOk.Pure := by
  intro o l _ ⟨hl, _⟩
  rw [maxLen_eq] at hl
  refine ⟨l.length + 10, ?_⟩
  unfold laws_FnExactCalOk.f
  rw [szCal_eq o l hl]
  simp only [Option.bind_some]
  by_cases h : (1048576 : Int) - l.length < 0
  · rw [if_pos h]; rfl
  · rw [if_neg h, if_neg h, toCal_eq o l (by omega) _ (by omega)]
    simp only [Option.bind_some]
    rw [calSpec_eq _ _ (by omega) _ (by omega), calImpl_eq _ _ (by omega) _ (by omega)]
    simp only [Option.bind_some]
    rw [if_neg (by simp), eqCal_refl _ _ (by omega) _ (by omega)]
    rfl

end Go.Proofs.Ytegkhdobjcdfnaa.Pure
