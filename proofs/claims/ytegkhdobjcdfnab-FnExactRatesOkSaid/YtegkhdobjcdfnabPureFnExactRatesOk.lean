/- The program's RatesOk answers as the reference's at every table and number, and the table reads as before. Conditions: none. -/
import Derived.Test.YtegkhdobjcdfnabPFnExactRatesOkx0
import Derived.Test.YtegkhdobjcdfnabPFnExactRatesOkx1
import Derived.Test.YtegkhdobjcdfnabPFnExactRatesOkx2
import Derived.Test.YtegkhdobjcdfnabPFnExactRatesOkx3
import Derived.Test.YtegkhdobjcdfnabPureAid
import Derived.Test.YtegkhdobjcdfnabWMore
namespace Go.Proofs.Ytegkhdobjcdfnab.Pure
open Go Go.RowKit Go.Proofs.Ytegkhdobjcdfnab.PFnExactRatesOk Go.Proofs.YtegkhdobjcdfnabW.PrintWords Go.Proofs.YtegkhdobjcdfnabW.PrintLast Go.Proofs.Ytegkhdobjcdfnab.Aid
set_option linter.unusedVariables false
set_option linter.unusedSimpArgs false
set_option maxRecDepth 100000
/-- The one pure statement of the law. -/
def laws_FnExactRatesOk.Pure : Prop := ∀ (l0 : List S63) (a1 : Int), (l0.length ≤ maxLen ∧ ∀ x ∈ l0, ((Lit.int .i64 x.f0).wf = true ∧ (Lit.int .i64 x.f1).wf = true ∧ (Lit.int .i64 x.f2).wf = true ∧ (Lit.int .i64 x.f3).wf = true)) → (Lit.int .i64 a1).wf = true → ∃ k, laws_FnExactRatesOk.f k l0 a1 = some true
def cvRate (x : S63) : S61 := ⟨x.f0,x.f1,x.f2,x.f3⟩
theorem toRateS_eq (l : List S63) (hl : l.length ≤ 1048576) (k : Nat) (hk : l.length < k) : laws_toRateS.f k l = some (l.map cvRate) := by
  unfold laws_toRateS.f
  rw [if_pos (by omega), if_pos (by omega)]
  refine loop_fill0 (fun k acc i => laws_toRateS.l0 k l acc i) l cvRate 0 ?_ ?_ k (by omega) _ (by simp)
  · intro k acc i x _ hi ha hx
    simp only [laws_toRateS.l0]
    rw [if_pos (by omega), if_pos (by omega), w64i hi (by omega)]
    unfold laws_toRate.f rd_T63
    rw [getD_of hx]
    simp only [Option.bind_some]
    rw [if_pos (by omega), Int.toNat_natCast]
    rfl
  · intro k acc _
    simp only [laws_toRateS.l0]
    rw [if_neg (by omega)]

theorem eqRateS_refl (l : List S61) (hl : l.length ≤ 9223372036854775807) (k : Nat) (hk : l.length < k) : laws_eqRateS.f k l l = some true := by
  unfold laws_eqRateS.f
  rw [if_pos rfl]
  rw [loop_scan0 (fun k i => laws_eqRateS.l0 k l l i) l.length 0 (fun _ => none) true ?_ ?_ ?_ k (by omega), scan_false _ _ (fun _ _ _ => rfl)]
  · intro k i r _ hi h
    cases h
  · intro k i _ hi h
    simp only [laws_eqRateS.l0]
    rw [if_pos (by omega), if_pos (by omega), if_pos (by omega), w64i hi (by omega)]
    simp only [laws_eqRate.f, Option.bind_some, if_true]
  · intro k _
    simp only [laws_eqRateS.l0]
    rw [if_neg (by omega)]

theorem szRateS_spec (l : List S63) (hl : l.length ≤ 9223372036854775807) (k : Nat) (hk : l.length < k) : ∃ r, laws_szRateS.f l 1048576 = some r ∧ (r < 0 ∨ (0 ≤ r ∧ l.length ≤ 1048576)) := by
  unfold laws_szRateS.f
  rw [w64 (by omega) (by omega)]
  by_cases h : (1048576 - (l.length : Int)) < 0
  · exact ⟨_, if_pos h, .inl (by omega)⟩
  · exact ⟨_, if_neg h, .inr ⟨by omega, by omega⟩⟩

theorem two_dec (a b : Prop) [Decidable a] [Decidable b] : (if a then some (decide b) else some false) = some (decide (a ∧ b)) := by
  by_cases h : a
  · rw [if_pos h]; congr 1; rw [decide_eq_decide]; exact ⟨fun hb => ⟨h, hb⟩, fun hb => hb.2⟩
  · rw [if_neg h]; congr 1; symm; rw [decide_eq_false_iff_not]; exact fun hb => h hb.1

theorem l1In_eq (a b c : Int) : spec_l1In.f a b c = some (decide (b ≤ a ∧ a ≤ c)) := by unfold spec_l1In.f; exact two_dec (a ≥ b) (a ≤ c)

theorem l2Day_eq (a : Int) : spec_l2Day.f a = some (decide (0 ≤ a ∧ a ≤ 40000)) := by unfold spec_l2Day.f; rw [l1In_eq]; rfl

theorem between_eq (a b c : Int) : impl_between.f a b c = some (decide (b ≤ a ∧ a ≤ c)) := by unfold impl_between.f; exact two_dec (a ≥ b) (a ≤ c)

theorem isDay_eq (a : Int) : impl_isDay.f a = some (decide (0 ≤ a ∧ a ≤ 40000)) := by unfold impl_isDay.f; rw [between_eq]; rfl

theorem prev_w (i : Nat) (h : 0 < i) (hi : i ≤ 9223372036854775807) : wrap64 ((i : Int) - 1) = ((i - 1 : Nat) : Int) := by unfold wrap64; omega

def rateB (n : Int) (x : S61) : Bool := decide (0 ≤ x.f0 ∧ x.f0 ≤ 40000) && decide (1 ≤ x.f1 ∧ x.f1 ≤ wrap64 (n - 1)) && decide (1 ≤ x.f2 ∧ x.f2 ≤ 10000000) && decide (1 ≤ x.f3 ∧ x.f3 ≤ 10000000)
def rateAfter (p x : S61) : Bool := decide (p.f0 < x.f0) || (decide (p.f0 = x.f0) && decide (p.f1 < x.f1))
def rateStop (l : List S61) (n : Int) (i : Nat) : Option Bool := if (rateB n (rd_T61 l i) && (decide (i = 0) || rateAfter (rd_T61 l ((i - 1 : Nat) : Int)) (rd_T61 l i))) = true then none else some false
theorem rateJ2 (k : Nat) (l : List S61) (n : Int) (i : Nat) (hi : i < l.length) (hl : l.length ≤ 9223372036854775807) (b : Bool) (x : S61) : spec_RatesOk.j2 (k + 1) l n (i : Int) b x.f0 x.f1 x.f2 x.f3 =
    if (!b && (decide (i = 0) || rateAfter (rd_T61 l ((i - 1 : Nat) : Int)) x)) = true then spec_RatesOk.l0 k l n ((i + 1 : Nat) : Int) else some false := by
  simp only [spec_RatesOk.j2]
  cases b with
  | true => simp
  | false =>
    by_cases h : i = 0
    · subst h
      rw [w64i hi hl]
      simp
    · rw [w64i hi hl, prev_w i (by omega) (by omega), if_neg (by simp), if_pos (by omega), if_pos (by omega), if_pos (by omega)]
      generalize rd_T61 l ((i - 1 : Nat) : Int) = p
      unfold rateAfter
      by_cases h1 : p.f0 > x.f0
      · rw [if_pos h1, if_neg]
        simp only [Bool.not_false, Bool.true_and, Bool.or_eq_true, Bool.and_eq_true, decide_eq_true_eq]; omega
      · rw [if_neg h1]
        by_cases h2 : p.f0 = x.f0
        · rw [if_pos h2]
          by_cases h3 : p.f1 ≥ x.f1
          · rw [if_pos h3, if_neg]
            simp only [Bool.not_false, Bool.true_and, Bool.or_eq_true, Bool.and_eq_true, decide_eq_true_eq]; omega
          · rw [if_neg h3, if_pos]
            simp only [Bool.not_false, Bool.true_and, Bool.or_eq_true, Bool.and_eq_true, decide_eq_true_eq]; omega
        · rw [if_neg h2, if_pos]
          simp only [Bool.not_false, Bool.true_and, Bool.or_eq_true, Bool.and_eq_true, decide_eq_true_eq]; omega
theorem rateSpec_step (k : Nat) (l : List S61) (n : Int) (i : Nat) (hi : i < l.length) (hl : l.length ≤ 9223372036854775807) :
    spec_RatesOk.l0 (k + 2) l n (i : Int) = goOn (rateStop l n i) (spec_RatesOk.l0 k l n ((i + 1 : Nat) : Int)) := by
  simp only [spec_RatesOk.l0]
  rw [if_pos (by omega), if_pos (by omega)]
  simp only [l2Day_eq, l1In_eq, Option.bind_some, rateJ2 k l n i hi hl _ (rd_T61 l i)]
  unfold rateStop rateB
  rw [goOn_if]
  generalize decide (0 ≤ (rd_T61 l i).f0 ∧ (rd_T61 l i).f0 ≤ 40000) = c0
  generalize decide (1 ≤ (rd_T61 l i).f1 ∧ (rd_T61 l i).f1 ≤ wrap64 (n - 1)) = c1
  generalize decide (1 ≤ (rd_T61 l i).f2 ∧ (rd_T61 l i).f2 ≤ 10000000) = c2
  generalize decide (1 ≤ (rd_T61 l i).f3 ∧ (rd_T61 l i).f3 ≤ 10000000) = c3
  generalize (decide (i = 0) || rateAfter (rd_T61 l ((i - 1 : Nat) : Int)) (rd_T61 l i)) = c4
  cases c0 <;> cases c1 <;> cases c2 <;> cases c3 <;> cases c4 <;> simp
def ratesOk (l : List S61) (n : Int) : Bool := decide (l.length ≤ 400) && decide (1 ≤ n ∧ n ≤ 20) && scan (rateStop l n) true l.length 0
theorem ratesSpec_eq (l : List S61) (n : Int) (hl : l.length ≤ 9223372036854775807) (k : Nat) (hk : 2 * l.length + 5 ≤ k) : spec_RatesOk.f k l n = some (ratesOk l n) := by
  obtain ⟨k, rfl⟩ : ∃ m, k = m + 1 := ⟨k - 1, by omega⟩
  unfold spec_RatesOk.f ratesOk
  by_cases h1 : (l.length : Int) > 400
  · rw [if_pos h1, decide_eq_false (by omega)]; rfl
  · rw [if_neg h1, l1In_eq, decide_eq_true (show l.length ≤ 400 by omega)]
    simp only [Option.bind_some, spec_RatesOk.j0, Bool.true_and]
    by_cases h2 : 1 ≤ n ∧ n ≤ 20
    · rw [decide_eq_true h2, if_neg (by simp)]
      simp only [Bool.true_and]
      refine loop_scanM0 (fun k i => spec_RatesOk.l0 k l n i) l.length 0 2 (rateStop l n) true ?_ ?_ k (by omega)
      · intro k i _ hi; exact rateSpec_step k l n i hi hl
      · intro k _
        simp only [spec_RatesOk.l0]
        rw [if_neg (by omega)]
    · rw [decide_eq_false h2]; rfl
theorem rateJ2i (k : Nat) (l : List S61) (n : Int) (i : Nat) (hi : i < l.length) (hl : l.length ≤ 9223372036854775807) (b : Bool) (x : S61) : impl_RatesOk.j2 (k + 1) l n (i : Int) l (l.length : Int) (i : Int) b x.f0 x.f1 x.f2 x.f3 =
    if (!b && (decide (i = 0) || rateAfter (rd_T61 l ((i - 1 : Nat) : Int)) x)) = true then impl_RatesOk.l0 k l n l (l.length : Int) ((i + 1 : Nat) : Int) else some false := by
  simp only [impl_RatesOk.j2]
  cases b with
  | true => simp
  | false =>
    by_cases h : i = 0
    · subst h
      rw [w64i hi hl]
      simp
    · rw [w64i hi hl, prev_w i (by omega) (by omega), if_neg (by simp), if_pos (by omega), if_pos (by omega), if_pos (by omega)]
      generalize rd_T61 l ((i - 1 : Nat) : Int) = p
      unfold rateAfter
      by_cases h1 : p.f0 > x.f0
      · rw [if_pos h1, if_neg]
        simp only [Bool.not_false, Bool.true_and, Bool.or_eq_true, Bool.and_eq_true, decide_eq_true_eq]; omega
      · rw [if_neg h1]
        by_cases h2 : p.f0 = x.f0
        · rw [if_pos h2]
          by_cases h3 : p.f1 ≥ x.f1
          · rw [if_pos h3, if_neg]
            simp only [Bool.not_false, Bool.true_and, Bool.or_eq_true, Bool.and_eq_true, decide_eq_true_eq]; omega
          · rw [if_neg h3, if_pos]
            simp only [Bool.not_false, Bool.true_and, Bool.or_eq_true, Bool.and_eq_true, decide_eq_true_eq]; omega
        · rw [if_neg h2, if_pos]
          simp only [Bool.not_false, Bool.true_and, Bool.or_eq_true, Bool.and_eq_true, decide_eq_true_eq]; omega
theorem rateImpl_step (k : Nat) (l : List S61) (n : Int) (i : Nat) (hi : i < l.length) (hl : l.length ≤ 9223372036854775807) :
    impl_RatesOk.l0 (k + 2) l n l (l.length : Int) (i : Int) = goOn (rateStop l n i) (impl_RatesOk.l0 k l n l (l.length : Int) ((i + 1 : Nat) : Int)) := by
  simp only [impl_RatesOk.l0]
  rw [if_pos (by omega), if_pos (by omega), if_pos (by omega)]
  simp only [isDay_eq, between_eq, Option.bind_some, rateJ2i k l n i hi hl _ (rd_T61 l i)]
  unfold rateStop rateB
  rw [goOn_if]
  generalize decide (0 ≤ (rd_T61 l i).f0 ∧ (rd_T61 l i).f0 ≤ 40000) = c0
  generalize decide (1 ≤ (rd_T61 l i).f1 ∧ (rd_T61 l i).f1 ≤ wrap64 (n - 1)) = c1
  generalize decide (1 ≤ (rd_T61 l i).f2 ∧ (rd_T61 l i).f2 ≤ 10000000) = c2
  generalize decide (1 ≤ (rd_T61 l i).f3 ∧ (rd_T61 l i).f3 ≤ 10000000) = c3
  generalize (decide (i = 0) || rateAfter (rd_T61 l ((i - 1 : Nat) : Int)) (rd_T61 l i)) = c4
  cases c0 <;> cases c1 <;> cases c2 <;> cases c3 <;> cases c4 <;> simp
theorem ratesImpl_eq (l : List S61) (n : Int) (hl : l.length ≤ 9223372036854775807) (k : Nat) (hk : 2 * l.length + 5 ≤ k) : impl_RatesOk.f k l n = some (ratesOk l n) := by
  obtain ⟨k, rfl⟩ : ∃ m, k = m + 1 := ⟨k - 1, by omega⟩
  unfold impl_RatesOk.f ratesOk
  by_cases h1 : (l.length : Int) > 400
  · rw [if_pos h1, decide_eq_false (by omega)]; rfl
  · rw [if_neg h1, between_eq, decide_eq_true (show l.length ≤ 400 by omega)]
    simp only [Option.bind_some, impl_RatesOk.j0, Bool.true_and]
    by_cases h2 : 1 ≤ n ∧ n ≤ 20
    · rw [decide_eq_true h2, if_neg (by simp)]
      simp only [Bool.true_and]
      refine loop_scanM0 (fun k i => impl_RatesOk.l0 k l n l (l.length : Int) i) l.length 0 2 (rateStop l n) true ?_ ?_ k (by omega)
      · intro k i _ hi; exact rateImpl_step k l n i hi hl
      · intro k _
        simp only [impl_RatesOk.l0]
        rw [if_neg (by omega)]
    · rw [decide_eq_false h2]; rfl
theorem FnExactRatesOk : laws_FnExactRatesOk.Pure := by
  intro l n ⟨hl, _⟩ _
  rw [maxLen_eq] at hl
  refine ⟨2 * l.length + 10, ?_⟩
  unfold laws_FnExactRatesOk.f
  obtain ⟨r, hr, hc⟩ := szRateS_spec l hl (2 * l.length + 10) (by omega)
  rw [hr]
  simp only [Option.bind_some]
  rcases hc with hc | ⟨hc0, hc⟩
  · rw [if_pos hc]
  · have hm : (l.map cvRate).length = l.length := by simp
    rw [if_neg (by omega), toRateS_eq l hc _ (by omega)]
    simp only [Option.bind_some]
    rw [ratesSpec_eq _ _ (by omega) _ (by omega), ratesImpl_eq _ _ (by omega) _ (by omega)]
    simp only [Option.bind_some]
    rw [if_neg (by simp), eqRateS_refl _ (by omega) _ (by omega)]
    rfl

end Go.Proofs.Ytegkhdobjcdfnab.Pure
