/- The program's RateAt answers as the reference's at every table, number, currency and day, and the table reads as before. Conditions: none. -/
import Derived.Test.YtdnfagcnojnmiaaPFnExactRateAtx0
import Derived.Test.YtdnfagcnojnmiaaPFnExactRateAtx1
import Derived.Test.YtdnfagcnojnmiaaPFnExactRateAtx2
import Derived.Test.YtdnfagcnojnmiaaPFnExactRateAtx3
import Derived.Test.YtdnfagcnojnmiaaPFnExactRateAtx4
import Derived.Test.YtdnfagcnojnmiaaPFnExactRateAtx5
import Derived.Test.YtdnfagcnojnmiaaPureAid
import Derived.Test.YtdnfagcnojnmiaaWMore
namespace Go.Proofs.Ytdnfagcnojnmiaa.Pure
open Go Go.RowKit Go.Proofs.Ytdnfagcnojnmiaa.PFnExactRateAt Go.Proofs.YtdnfagcnojnmiaaW.PrintWords Go.Proofs.YtdnfagcnojnmiaaW.PrintLast Go.Proofs.Ytdnfagcnojnmiaa.Aid
set_option linter.unusedVariables false
set_option linter.unusedSimpArgs false
set_option maxRecDepth 100000
/-- The one pure statement of the law. -/
def laws_FnExactRateAt.Pure : Prop := ∀ (l0 : List S71) (a1 : Int) (a2 : Int) (a3 : Int), (l0.length ≤ maxLen ∧ ∀ x ∈ l0, ((Lit.int .i64 x.f0).wf = true ∧ (Lit.int .i64 x.f1).wf = true ∧ (Lit.int .i64 x.f2).wf = true ∧ (Lit.int .i64 x.f3).wf = true)) → (Lit.int .i64 a1).wf = true → (Lit.int .i64 a2).wf = true → (Lit.int .i64 a3).wf = true → ∃ k, laws_FnExactRateAt.f k l0 a1 a2 a3 = some true
def cvRate (x : S71) : S69 := ⟨x.f0,x.f1,x.f2,x.f3⟩
theorem toRateS_eq (l : List S71) (hl : l.length ≤ 1048576) (k : Nat) (hk : l.length < k) : laws_toRateS.f k l = some (l.map cvRate) := by
  unfold laws_toRateS.f
  rw [if_pos (by omega), if_pos (by omega)]
  refine loop_fill0 (fun k acc i => laws_toRateS.l0 k l acc i) l cvRate 0 ?_ ?_ k (by omega) _ (by simp)
  · intro k acc i x _ hi ha hx
    simp only [laws_toRateS.l0]
    rw [if_pos (by omega), if_pos (by omega), w64i hi (by omega)]
    unfold laws_toRate.f rd_T71
    rw [getD_of hx]
    simp only [Option.bind_some]
    rw [if_pos (by omega), Int.toNat_natCast]
    rfl
  · intro k acc _
    simp only [laws_toRateS.l0]
    rw [if_neg (by omega)]

theorem eqRateS_refl (l : List S69) (hl : l.length ≤ 9223372036854775807) (k : Nat) (hk : l.length < k) : laws_eqRateS.f k l l = some true := by
  unfold laws_eqRateS.f
  rw [if_pos rfl]
  rw [loop_scan0 (fun k i => laws_eqRateS.l0 k l l i) l.length 0 (fun _ => none) true ?_ ?_ ?_ k (by omega), scan_false _ _ (fun _ _ _ => rfl)]
  · intro k i r _ hi h
    cases h
  · intro k i _ hi h
    simp only [laws_eqRateS.l0]
    rw [if_pos (by omega), if_pos (by omega), if_pos (by omega), w64i hi (by omega)]
    simp only [laws_eqRate.f, Option.bind_some, if_true]
  · intro k _
    simp only [laws_eqRateS.l0]
    rw [if_neg (by omega)]

theorem szRateS_spec (l : List S71) (hl : l.length ≤ 9223372036854775807) (k : Nat) (hk : l.length < k) : ∃ r, laws_szRateS.f l 1048576 = some r ∧ (r < 0 ∨ (0 ≤ r ∧ l.length ≤ 1048576)) := by
  unfold laws_szRateS.f
  rw [w64 (by omega) (by omega)]
  by_cases h : (1048576 - (l.length : Int)) < 0
  · exact ⟨_, if_pos h, .inl (by omega)⟩
  · exact ⟨_, if_neg h, .inr ⟨by omega, by omega⟩⟩

theorem two_dec (a b : Prop) [Decidable a] [Decidable b] : (if a then some (decide b) else some false) = some (decide (a ∧ b)) := by
  by_cases h : a
  · rw [if_pos h]; congr 1; rw [decide_eq_decide]; exact ⟨fun hb => ⟨h, hb⟩, fun hb => hb.2⟩
  · rw [if_neg h]; congr 1; symm; rw [decide_eq_false_iff_not]; exact fun hb => h hb.1

theorem l1In_eq (a b c : Int) : spec_l1In.f a b c = some (decide (b ≤ a ∧ a ≤ c)) := by unfold spec_l1In.f; exact two_dec (a ≥ b) (a ≤ c)

theorem l2Day_eq (a : Int) : spec_l2Day.f a = some (decide (0 ≤ a ∧ a ≤ 40000)) := by unfold spec_l2Day.f; rw [l1In_eq]; rfl

theorem between_eq (a b c : Int) : impl_between.f a b c = some (decide (b ≤ a ∧ a ≤ c)) := by unfold impl_between.f; exact two_dec (a ≥ b) (a ≤ c)

theorem isDay_eq (a : Int) : impl_isDay.f a = some (decide (0 ≤ a ∧ a ≤ 40000)) := by unfold impl_isDay.f; rw [between_eq]; rfl

theorem prev_w (i : Nat) (h : 0 < i) (hi : i ≤ 9223372036854775807) : wrap64 ((i : Int) - 1) = ((i - 1 : Nat) : Int) := by unfold wrap64; omega

def rateB (n : Int) (x : S69) : Bool := decide (0 ≤ x.f0 ∧ x.f0 ≤ 40000) && decide (1 ≤ x.f1 ∧ x.f1 ≤ wrap64 (n - 1)) && decide (1 ≤ x.f2 ∧ x.f2 ≤ 10000000) && decide (1 ≤ x.f3 ∧ x.f3 ≤ 10000000)
def rateAfter (p x : S69) : Bool := decide (p.f0 < x.f0) || (decide (p.f0 = x.f0) && decide (p.f1 < x.f1))
def rateStop (l : List S69) (n : Int) (i : Nat) : Option Bool := if (rateB n (rd_T69 l i) && (decide (i = 0) || rateAfter (rd_T69 l ((i - 1 : Nat) : Int)) (rd_T69 l i))) = true then none else some false
theorem rateJ2 (k : Nat) (l : List S69) (n : Int) (i : Nat) (hi : i < l.length) (hl : l.length ≤ 9223372036854775807) (b : Bool) (x : S69) : spec_RatesOk.j2 (k + 1) l n (i : Int) b x.f0 x.f1 x.f2 x.f3 =
    if (!b && (decide (i = 0) || rateAfter (rd_T69 l ((i - 1 : Nat) : Int)) x)) = true then spec_RatesOk.l0 k l n ((i + 1 : Nat) : Int) else some false := by
  simp only [spec_RatesOk.j2]
  cases b with
  | true => simp
  | false =>
    by_cases h : i = 0
    · subst h
      rw [w64i hi hl]
      simp
    · rw [w64i hi hl, prev_w i (by omega) (by omega), if_neg (by simp), if_pos (by omega), if_pos (by omega), if_pos (by omega)]
      generalize rd_T69 l ((i - 1 : Nat) : Int) = p
      unfold rateAfter
      by_cases h1 : p.f0 > x.f0
      · rw [if_pos h1, if_neg]
        simp only [Bool.not_false, Bool.true_and, Bool.or_eq_true, Bool.and_eq_true, decide_eq_true_eq]; omega
      · rw [if_neg h1]
        by_cases h2 : p.f0 = x.f0
        · rw [if_pos h2]
          by_cases h3 : p.f1 ≥ x.f1
          · rw [if_pos h3, if_neg]
            simp only [Bool.not_false, Bool.true_and, Bool.or_eq_true, Bool.and_eq_true, decide_eq_true_eq]; omega
          · rw [if_neg h3, if_pos]
            simp only [Bool.not_false, Bool.true_and, Bool.or_eq_true, Bool.and_eq_true, decide_eq_true_eq]; omega
        · rw [if_neg h2, if_pos]
          simp only [Bool.not_false, Bool.true_and, Bool.or_eq_true, Bool.and_eq_true, decide_eq_true_eq]; omega
theorem rateSpec_step (k : Nat) (l : List S69) (n : Int) (i : Nat) (hi : i < l.length) (hl : l.length ≤ 9223372036854775807) :
    spec_RatesOk.l0 (k + 2) l n (i : Int) = goOn (rateStop l n i) (spec_RatesOk.l0 k l n ((i + 1 : Nat) : Int)) := by
  simp only [spec_RatesOk.l0]
  rw [if_pos (by omega), if_pos (by omega)]
  simp only [l2Day_eq, l1In_eq, Option.bind_some, rateJ2 k l n i hi hl _ (rd_T69 l i)]
  unfold rateStop rateB
  rw [goOn_if]
  generalize decide (0 ≤ (rd_T69 l i).f0 ∧ (rd_T69 l i).f0 ≤ 40000) = c0
  generalize decide (1 ≤ (rd_T69 l i).f1 ∧ (rd_T69 l i).f1 ≤ wrap64 (n - 1)) = c1
  generalize decide (1 ≤ (rd_T69 l i).f2 ∧ (rd_T69 l i).f2 ≤ 10000000) = c2
  generalize decide (1 ≤ (rd_T69 l i).f3 ∧ (rd_T69 l i).f3 ≤ 10000000) = c3
  generalize (decide (i = 0) || rateAfter (rd_T69 l ((i - 1 : Nat) : Int)) (rd_T69 l i)) = c4
  cases c0 <;> cases c1 <;> cases c2 <;> cases c3 <;> cases c4 <;> simp
def ratesOk (l : List S69) (n : Int) : Bool := decide (l.length ≤ 400) && decide (1 ≤ n ∧ n ≤ 20) && scan (rateStop l n) true l.length 0
theorem ratesSpec_eq (l : List S69) (n : Int) (hl : l.length ≤ 9223372036854775807) (k : Nat) (hk : 2 * l.length + 5 ≤ k) : spec_RatesOk.f k l n = some (ratesOk l n) := by
  obtain ⟨k, rfl⟩ : ∃ m, k = m + 1 := ⟨k - 1, by omega⟩
  unfold spec_RatesOk.f ratesOk
  by_cases h1 : (l.length : Int) > 400
  · rw [if_pos h1, decide_eq_false (by omega)]; rfl
  · rw [if_neg h1, l1In_eq, decide_eq_true (show l.length ≤ 400 by omega)]
    simp only [Option.bind_some, spec_RatesOk.j0, Bool.true_and]
    by_cases h2 : 1 ≤ n ∧ n ≤ 20
    · rw [decide_eq_true h2, if_neg (by simp)]
      simp only [Bool.true_and]
      refine loop_scanM0 (fun k i => spec_RatesOk.l0 k l n i) l.length 0 2 (rateStop l n) true ?_ ?_ k (by omega)
      · intro k i _ hi; exact rateSpec_step k l n i hi hl
      · intro k _
        simp only [spec_RatesOk.l0]
        rw [if_neg (by omega)]
    · rw [decide_eq_false h2]; rfl
theorem rateJ2i (k : Nat) (l : List S69) (n : Int) (i : Nat) (hi : i < l.length) (hl : l.length ≤ 9223372036854775807) (b : Bool) (x : S69) : impl_RatesOk.j2 (k + 1) l n (i : Int) l (l.length : Int) (i : Int) b x.f0 x.f1 x.f2 x.f3 =
    if (!b && (decide (i = 0) || rateAfter (rd_T69 l ((i - 1 : Nat) : Int)) x)) = true then impl_RatesOk.l0 k l n l (l.length : Int) ((i + 1 : Nat) : Int) else some false := by
  simp only [impl_RatesOk.j2]
  cases b with
  | true => simp
  | false =>
    by_cases h : i = 0
    · subst h
      rw [w64i hi hl]
      simp
    · rw [w64i hi hl, prev_w i (by omega) (by omega), if_neg (by simp), if_pos (by omega), if_pos (by omega), if_pos (by omega)]
      generalize rd_T69 l ((i - 1 : Nat) : Int) = p
      unfold rateAfter
      by_cases h1 : p.f0 > x.f0
      · rw [if_pos h1, if_neg]
        simp only [Bool.not_false, Bool.true_and, Bool.or_eq_true, Bool.and_eq_true, decide_eq_true_eq]; omega
      · rw [if_neg h1]
        by_cases h2 : p.f0 = x.f0
        · rw [if_pos h2]
          by_cases h3 : p.f1 ≥ x.f1
          · rw [if_pos h3, if_neg]
            simp only [Bool.not_false, Bool.true_and, Bool.or_eq_true, Bool.and_eq_true, decide_eq_true_eq]; omega
          · rw [if_neg h3, if_pos]
            simp only [Bool.not_false, Bool.true_and, Bool.or_eq_true, Bool.and_eq_true, decide_eq_true_eq]; omega
        · rw [if_neg h2, if_pos]
          simp only [Bool.not_false, Bool.true_and, Bool.or_eq_true, Bool.and_eq_true, decide_eq_true_eq]; omega
theorem rateImpl_step (k : Nat) (l : List S69) (n : Int) (i : Nat) (hi : i < l.length) (hl : l.length ≤ 9223372036854775807) :
    impl_RatesOk.l0 (k + 2) l n l (l.length : Int) (i : Int) = goOn (rateStop l n i) (impl_RatesOk.l0 k l n l (l.length : Int) ((i + 1 : Nat) : Int)) := by
  simp only [impl_RatesOk.l0]
  rw [if_pos (by omega), if_pos (by omega), if_pos (by omega)]
  simp only [isDay_eq, between_eq, Option.bind_some, rateJ2i k l n i hi hl _ (rd_T69 l i)]
  unfold rateStop rateB
  rw [goOn_if]
  generalize decide (0 ≤ (rd_T69 l i).f0 ∧ (rd_T69 l i).f0 ≤ 40000) = c0
  generalize decide (1 ≤ (rd_T69 l i).f1 ∧ (rd_T69 l i).f1 ≤ wrap64 (n - 1)) = c1
  generalize decide (1 ≤ (rd_T69 l i).f2 ∧ (rd_T69 l i).f2 ≤ 10000000) = c2
  generalize decide (1 ≤ (rd_T69 l i).f3 ∧ (rd_T69 l i).f3 ≤ 10000000) = c3
  generalize (decide (i = 0) || rateAfter (rd_T69 l ((i - 1 : Nat) : Int)) (rd_T69 l i)) = c4
  cases c0 <;> cases c1 <;> cases c2 <;> cases c3 <;> cases c4 <;> simp
theorem ratesImpl_eq (l : List S69) (n : Int) (hl : l.length ≤ 9223372036854775807) (k : Nat) (hk : 2 * l.length + 5 ≤ k) : impl_RatesOk.f k l n = some (ratesOk l n) := by
  obtain ⟨k, rfl⟩ : ∃ m, k = m + 1 := ⟨k - 1, by omega⟩
  unfold impl_RatesOk.f ratesOk
  by_cases h1 : (l.length : Int) > 400
  · rw [if_pos h1, decide_eq_false (by omega)]; rfl
  · rw [if_neg h1, between_eq, decide_eq_true (show l.length ≤ 400 by omega)]
    simp only [Option.bind_some, impl_RatesOk.j0, Bool.true_and]
    by_cases h2 : 1 ≤ n ∧ n ≤ 20
    · rw [decide_eq_true h2, if_neg (by simp)]
      simp only [Bool.true_and]
      refine loop_scanM0 (fun k i => impl_RatesOk.l0 k l n l (l.length : Int) i) l.length 0 2 (rateStop l n) true ?_ ?_ k (by omega)
      · intro k i _ hi; exact rateImpl_step k l n i hi hl
      · intro k _
        simp only [impl_RatesOk.l0]
        rw [if_neg (by omega)]
    · rw [decide_eq_false h2]; rfl

def lastOf (xs : List S69) : Int × Int × Bool := match xs.getLast? with
  | some x => (x.f2, x.f3, true)
  | none => (0, 0, false)
theorem rd69 (xs : List S69) (i : Nat) (h : i < xs.length) : rd_T69 xs (i : Int) = xs[i] := by
  unfold rd_T69
  rw [Int.toNat_natCast, List.getD_eq_getElem?_getD, List.getElem?_eq_getElem h]; rfl
def ofKey (j day : Int) (x : S69) : Bool := decide (x.f0 ≤ day) && decide (x.f1 = j)
theorem back_eq (l : List S69) (j day : Int) (hl : l.length ≤ 1048576) : ∀ (m k : Nat), m ≤ l.length → m < k → spec_RateAt.l0 k l j day ((m : Int) - 1) = some (lastOf ((l.take m).filter (ofKey j day))) := by
  intro m
  induction m with
  | zero =>
    intro k hm hk
    obtain ⟨k, rfl⟩ : ∃ q, k = q + 1 := ⟨k - 1, by omega⟩
    rw [spec_RateAt.l0, if_neg (by omega)]
    rfl
  | succ m ih =>
    intro k hm hk
    obtain ⟨k, rfl⟩ : ∃ q, k = q + 1 := ⟨k - 1, by omega⟩
    have hm' : m < l.length := by omega
    rw [show ((m + 1 : Nat) : Int) - 1 = (m : Int) by omega, spec_RateAt.l0, if_pos (by omega), if_pos (by omega), if_pos (by omega), rd69 l m hm', w64 (by omega) (by omega), ih k (by omega) (by omega), ← List.take_append_getElem hm', List.filter_append]
    by_cases h1 : l[m].f1 = j
    · rw [if_pos h1]
      by_cases h2 : l[m].f0 ≤ day
      · rw [if_pos h2, List.filter_cons_of_pos (by simp [ofKey, h1, h2])]
        simp [lastOf]
      · rw [if_neg h2, List.filter_cons_of_neg (by simp [ofKey, h2])]
        simp
    · rw [if_neg h1, List.filter_cons_of_neg (by simp [ofKey, h1])]
      simp
theorem filter_take (p : S69 → Bool) (xs : List S69) (q : Nat) (h1 : ∀ i (h : i < xs.length), i < q → p xs[i] = true) (h2 : ∀ i (h : i < xs.length), q ≤ i → ¬ p xs[i] = true) : xs.filter p = xs.take q := by
  conv => lhs; rw [← List.take_append_drop q xs]
  rw [List.filter_append]
  have e1 : (xs.take q).filter p = xs.take q := by
    rw [List.filter_eq_self]
    intro a ha
    obtain ⟨i, hi, rfl⟩ := List.mem_iff_getElem.1 ha
    rw [List.length_take] at hi
    rw [List.getElem_take]
    exact h1 i (by omega) (by omega)
  have e2 : (xs.drop q).filter p = [] := by
    rw [List.filter_eq_nil_iff]
    intro a ha
    obtain ⟨i, hi, rfl⟩ := List.mem_iff_getElem.1 ha
    rw [List.length_drop] at hi
    rw [List.getElem_drop]
    exact h2 (q + i) (by omega) (by omega)
  rw [e1, e2, List.append_nil]
theorem firstNot_eq (xs : List S69) (day : Int) (hl : xs.length ≤ 1048576) (hs : ∀ i j (hi : i < xs.length) (hj : j < xs.length), i ≤ j → xs[i].f0 ≤ xs[j].f0) : ∀ (d k low n : Nat), n - low ≤ d → low ≤ n → n ≤ xs.length → d < k → (∀ i (h : i < xs.length), i < low → xs[i].f0 ≤ day) → (∀ i (h : i < xs.length), n ≤ i → ¬ xs[i].f0 ≤ day) →
    ∃ q : Nat, impl_firstNot.l0 k xs day (low : Int) (n : Int) = some (q : Int) ∧ q ≤ xs.length ∧ (∀ i (h : i < xs.length), i < q → xs[i].f0 ≤ day) ∧ (∀ i (h : i < xs.length), q ≤ i → ¬ xs[i].f0 ≤ day) := by
  intro d
  induction d with
  | zero =>
    intro k low n hd hln hn hk h1 h2
    obtain ⟨k, rfl⟩ : ∃ q, k = q + 1 := ⟨k - 1, by omega⟩
    obtain rfl : low = n := by omega
    refine ⟨low, ?_, hn, h1, h2⟩
    rw [impl_firstNot.l0, if_neg (by omega)]
  | succ d ih =>
    intro k low n hd hln hn hk h1 h2
    obtain ⟨k, rfl⟩ : ∃ q, k = q + 1 := ⟨k - 1, by omega⟩
    by_cases hlt : low < n
    · have em : wrap64 (Int.tdiv (wrap64 ((low : Int) + (n : Int))) 2) = (((low + n) / 2 : Nat) : Int) := by
        rw [w64 (x := (low : Int) + n) (by omega) (by omega), Int.tdiv_eq_ediv_of_nonneg (by omega), w64 (by omega) (by omega)]
        omega
      have hm : (low + n) / 2 < xs.length := by omega
      rw [impl_firstNot.l0, if_pos (by omega), em, if_pos (by omega), if_pos (by omega), rd69 xs _ hm, w64i hm (by omega)]
      by_cases hc : xs[(low + n) / 2].f0 ≤ day
      · rw [if_pos hc]
        refine ih k ((low + n) / 2 + 1) n (by omega) (by omega) hn (by omega) (fun i h hi => ?_) h2
        exact Int.le_trans (hs i ((low + n) / 2) h hm (by omega)) hc
      · rw [if_neg hc]
        refine ih k low ((low + n) / 2) (by omega) (by omega) (by omega) (by omega) h1 (fun i h hi hh => hc ?_)
        exact Int.le_trans (hs ((low + n) / 2) i hm h hi) hh
    · obtain rfl : low = n := by omega
      refine ⟨low, ?_, hn, h1, h2⟩
      rw [impl_firstNot.l0, if_neg (by omega)]
theorem pick_eq (xs : List S69) (day : Int) (hl : xs.length ≤ 1048576) (hs : ∀ i j (hi : i < xs.length) (hj : j < xs.length), i ≤ j → xs[i].f0 ≤ xs[j].f0) (k : Nat) (hk : xs.length < k) : impl_RateAt.pick k xs day = some (lastOf (xs.filter (fun x => decide (x.f0 ≤ day)))) := by
  obtain ⟨q, e, hq, h1, h2⟩ := firstNot_eq xs day hl hs xs.length k 0 xs.length (by omega) (by omega) (Nat.le_refl _) hk (fun i _ h => by omega) (fun i h hi => by omega)
  replace e : impl_firstNot.l0 k xs day 0 (xs.length : Int) = some (q : Int) := e
  unfold impl_RateAt.pick
  rw [e, filter_take (fun x => decide (x.f0 ≤ day)) xs q (fun i h hi => by simpa using h1 i h hi) (fun i h hi => by simpa using h2 i h hi)]
  simp only [Option.bind_some]
  by_cases hq0 : q = 0
  · subst hq0
    rw [if_pos (by omega)]; rfl
  · have ew : wrap64 ((q : Int) - 1) = ((q - 1 : Nat) : Int) := by rw [w64 (by omega) (by omega)]; omega
    rw [if_neg (by omega), ew, if_pos (by omega), if_pos (by omega), rd69 xs (q - 1) (by omega)]
    have : (xs.take q).getLast? = some xs[q - 1] := by
      rw [List.getLast?_eq_getElem?, List.length_take, List.getElem?_take, Nat.min_eq_left hq, if_pos (by omega), List.getElem?_eq_getElem]
    unfold lastOf
    rw [this]
theorem sorted_of (l : List S69) (n : Int) (h : ratesOk l n = true) : l.Pairwise (fun a b => a.f0 ≤ b.f0) := by
  unfold ratesOk at h
  simp only [Bool.and_eq_true, decide_eq_true_eq] at h
  obtain ⟨⟨hl, hn⟩, h⟩ := h
  have h3 := (scan_all l.length 0).1 h
  have step : ∀ i, i + 1 < l.length → (rd_T69 l (i : Int)).f0 ≤ (rd_T69 l ((i + 1 : Nat) : Int)).f0 := by
    intro i hi
    have h4 := h3 (i + 1) (by omega) (by omega)
    simp only [Bool.and_eq_true, Bool.or_eq_true, decide_eq_true_eq, rateAfter, Nat.add_sub_cancel] at h4
    omega
  have mono : ∀ (d i : Nat), i + d < l.length → (rd_T69 l (i : Int)).f0 ≤ (rd_T69 l ((i + d : Nat) : Int)).f0 := by
    intro d
    induction d with
    | zero => intro i _; exact Int.le_refl _
    | succ d ih => intro i hi; exact Int.le_trans (ih i (by omega)) (step (i + d) (by omega))
  rw [List.pairwise_iff_getElem]
  intro i j hi hj hij
  have := mono (j - i) i (by omega)
  rw [show i + (j - i) = j by omega, rd69 l i hi, rd69 l j hj] at this
  exact this
theorem fits_of (l : List S69) (a2 : Int) (hl : l.length ≤ 1048576) (h : ∀ x ∈ l, -9223372036854775808 ≤ x.f1 ∧ x.f1 ≤ 9223372036854775807) (h2 : -9223372036854775808 ≤ a2 ∧ a2 ≤ 9223372036854775807) : impl_RateAt.fits l a2 = true := by
  unfold impl_RateAt.fits
  simp only [Bool.and_eq_true, decide_eq_true_eq, List.all_eq_true]
  exact ⟨h, h2, by omega⟩
theorem rate_same (l : List S69) (a1 a2 a3 : Int) (hl : l.length ≤ 1048576) (hf : impl_RateAt.fits l a2 = true) (k : Nat) (hk : 2 * l.length + 10 ≤ k) : ∃ r, spec_RateAt.f k l a1 a2 a3 = some r ∧ impl_RateAt.f k l a1 a2 a3 = some r := by
  unfold spec_RateAt.f impl_RateAt.f impl_RateAt.ok
  rw [if_pos hf, ratesSpec_eq l a1 (by omega) k (by omega), ratesImpl_eq l a1 (by omega) k (by omega)]
  simp only [Option.bind_some]
  obtain ⟨k, rfl⟩ : ∃ q, k = q + 1 := ⟨k - 1, by omega⟩
  by_cases hr : ratesOk l a1 = true
  · have hn : 1 ≤ a1 ∧ a1 ≤ 20 := by
      unfold ratesOk at hr
      simp only [Bool.and_eq_true, decide_eq_true_eq] at hr
      exact hr.1.2
    rw [if_pos hr, if_pos hr, l1In_eq, between_eq, decide_eq_true hn, between_eq, l2Day_eq, isDay_eq]
    simp only [Option.bind_some, if_true, decide_eq_true_eq]
    by_cases h2 : 0 ≤ a2 ∧ a2 ≤ wrap64 (a1 - 1)
    · rw [if_pos h2, if_pos h2]
      by_cases h3 : 0 ≤ a3 ∧ a3 ≤ 40000
      · rw [decide_eq_true h3]
        simp only [Option.bind_some, if_true]
        rw [spec_RateAt.j0, if_neg (by simp)]
        by_cases h0 : a2 = 0
        · rw [if_pos h0, if_pos h0]
          exact ⟨_, rfl, rfl⟩
        · have hs := sorted_of l a1 hr
          have ho : (impl_RateAt.own l a2).Pairwise (fun a b => a.f0 ≤ b.f0) := hs.filter _
          have hol : (impl_RateAt.own l a2).length ≤ l.length := List.length_filter_le _ _
          rw [if_neg h0, if_neg h0, w64 (by omega) (by omega), back_eq l a2 a3 hl l.length k (Nat.le_refl _) (by omega), List.take_length]
          rw [pick_eq (impl_RateAt.own l a2) a3 (by omega) (fun i j hi hj hij => by
            rcases Nat.eq_or_lt_of_le hij with h | h
            · subst h; exact Int.le_refl _
            · exact List.pairwise_iff_getElem.1 ho i j hi hj h) (k + 1) (by omega)]
          unfold impl_RateAt.own
          rw [List.filter_filter]
          exact ⟨_, rfl, rfl⟩
      · rw [decide_eq_false h3]
        simp only [Option.bind_some]
        rw [spec_RateAt.j0, if_pos (by simp), if_neg (by simp)]
        exact ⟨_, rfl, rfl⟩
    · rw [if_neg h2, if_neg h2]
      simp only [Option.bind_some]
      rw [spec_RateAt.j0, if_pos (by simp), if_neg (by simp)]
      exact ⟨_, rfl, rfl⟩
  · rw [if_neg hr, if_neg hr]
    simp only [Option.bind_some]
    rw [spec_RateAt.j0, if_pos (by simp), if_neg (by simp)]
    exact ⟨_, rfl, rfl⟩
theorem FnExactRateAt : laws_FnExactRateAt.Pure := by
  intro l a1 a2 a3 ⟨hl, hw⟩ _ h2 _
  rw [maxLen_eq] at hl
  obtain ⟨k, hk⟩ : ∃ k, k = 2 * l.length + 20 := ⟨_, rfl⟩
  refine ⟨k, ?_⟩
  unfold laws_FnExactRateAt.f
  obtain ⟨r, hr, hc⟩ := szRateS_spec l hl k (by omega)
  rw [hr]
  simp only [Option.bind_some]
  rcases hc with hc | ⟨hc0, hc⟩
  · rw [if_pos hc]
  · have hm : (l.map cvRate).length = l.length := by simp
    have hf := fits_of (l.map cvRate) a2 (by omega) (fun x hx => by
      obtain ⟨y, hy, rfl⟩ := List.mem_map.1 hx
      exact wf64 (hw y hy).2.1) (wf64 h2)
    obtain ⟨R, e1, e2⟩ := rate_same (l.map cvRate) a1 a2 a3 (by omega) hf k (by omega)
    obtain ⟨k2, hk2⟩ : ∃ q, k = q + 1 := ⟨k - 1, by omega⟩
    rw [if_neg (by omega), toRateS_eq l hc _ (by omega)]
    simp only [Option.bind_some]
    rw [e1]
    simp only [Option.bind_some]
    rw [e2]
    simp only [Option.bind_some, if_true]
    rw [hk2, laws_FnExactRateAt.j0, if_neg (by simp), toRateS_eq l hc _ (by omega)]
    simp only [Option.bind_some]
    rw [eqRateS_refl _ (by omega) _ (by omega)]
    rfl

end Go.Proofs.Ytdnfagcnojnmiaa.Pure
