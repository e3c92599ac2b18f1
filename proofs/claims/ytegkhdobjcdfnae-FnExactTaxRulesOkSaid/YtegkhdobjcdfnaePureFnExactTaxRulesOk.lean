/- The program's TaxRulesOk answers as the reference's at every list of rules, which reads as before. Conditions: none. -/
import Derived.Test.YtegkhdobjcdfnaePFnExactTaxRulesOkx0
import Derived.Test.YtegkhdobjcdfnaePFnExactTaxRulesOkx1
import Derived.Test.YtegkhdobjcdfnaePFnExactTaxRulesOkx2
import Derived.Test.YtegkhdobjcdfnaePFnExactTaxRulesOkx3
import Derived.Test.YtegkhdobjcdfnaePFnExactTaxRulesOkx4
import Derived.Test.YtegkhdobjcdfnaePFnExactTaxRulesOkx5
import Derived.Test.YtegkhdobjcdfnaePFnExactTaxRulesOkx6
import Derived.Test.YtegkhdobjcdfnaePureAid
import Derived.Test.YtegkhdobjcdfnaeWMore
namespace Go.Proofs.Ytegkhdobjcdfnae.Pure
open Go Go.RowKit Go.Proofs.Ytegkhdobjcdfnae.PFnExactTaxRulesOk Go.Proofs.YtegkhdobjcdfnaeW.PrintWords Go.Proofs.YtegkhdobjcdfnaeW.PrintLast Go.Proofs.Ytegkhdobjcdfnae.Aid
set_option linter.unusedVariables false
set_option linter.unusedSimpArgs false
set_option maxRecDepth 100000
/-- The one pure statement of the law. -/
def laws_FnExactTaxRulesOk.Pure : Prop := ∀ (l0 : List S68), (l0.length ≤ maxLen ∧ ∀ x ∈ l0, (x.f0.size ≤ maxLen ∧ (Lit.int .i64 x.f1).wf = true ∧ (Lit.int .i64 x.f2).wf = true ∧ (Lit.int .i64 x.f3).wf = true ∧ (Lit.int .i64 x.f4).wf = true)) → ∃ k, laws_FnExactTaxRulesOk.f k l0 = some true
def cvTaxRule (x : S68) : S69 := ⟨x.f0,x.f1,x.f2,x.f3,x.f4⟩
theorem toTaxRuleS_eq (l : List S68) (hl : l.length ≤ 1048576) (k : Nat) (hk : l.length < k) : laws_toTaxRuleS.f k l = some (l.map cvTaxRule) := by
  unfold laws_toTaxRuleS.f
  rw [if_pos (by omega), if_pos (by omega)]
  refine loop_fill0 (fun k acc i => laws_toTaxRuleS.l0 k l acc i) l cvTaxRule 0 ?_ ?_ k (by omega) _ (by simp)
  · intro k acc i x _ hi ha hx
    simp only [laws_toTaxRuleS.l0]
    rw [if_pos (by omega), if_pos (by omega), w64i hi (by omega)]
    unfold laws_toTaxRule.f rd_T68
    rw [getD_of hx]
    simp only [Option.bind_some]
    rw [if_pos (by omega), Int.toNat_natCast]
    rfl
  · intro k acc _
    simp only [laws_toTaxRuleS.l0]
    rw [if_neg (by omega)]

theorem eqTaxRuleS_refl (l : List S69) (hl : l.length ≤ 9223372036854775807) (k : Nat) (hk : l.length < k) : laws_eqTaxRuleS.f k l l = some true := by
  unfold laws_eqTaxRuleS.f
  rw [if_pos rfl]
  rw [loop_scan0 (fun k i => laws_eqTaxRuleS.l0 k l l i) l.length 0 (fun _ => none) true ?_ ?_ ?_ k (by omega), scan_false _ _ (fun _ _ _ => rfl)]
  · intro k i r _ hi h
    cases h
  · intro k i _ hi h
    simp only [laws_eqTaxRuleS.l0]
    rw [if_pos (by omega), if_pos (by omega), if_pos (by omega), w64i hi (by omega)]
    simp only [laws_eqTaxRule.f, Option.bind_some, if_true]
  · intro k _
    simp only [laws_eqTaxRuleS.l0]
    rw [if_neg (by omega)]

theorem szTaxRule_spec (x : S68) (a : Int) (h0 : 0 ≤ a) (h1 : a ≤ 1048576) (hx : x.f0.size ≤ maxLen) : ∃ r, laws_szTaxRule.f x.f0 x.f1 x.f2 x.f3 x.f4 a = some r ∧ (r < 0 ∨ (0 ≤ r ∧ r ≤ a ∧ (x.f0.size : Int) ≤ a)) := by
  have e : maxLen = 9223372036854775807 := maxLen_eq
  unfold laws_szTaxRule.f
  rw [w64 (by omega) (by omega)]
  repeat' (first | (split; exact ⟨_, rfl, .inl (by omega)⟩) | rw [w64 (by omega) (by omega)])
  exact ⟨_, rfl, .inr (by omega)⟩
theorem szTaxRuleS_loop (l : List S68) (hl : l.length ≤ 9223372036854775807) (hx : ∀ x ∈ l, x.f0.size ≤ maxLen) : ∀ (d i k : Nat) (a : Int), i + d = l.length → d < k → 0 ≤ a → a ≤ 1048576 → (∀ j x, j < i → l[j]? = some x → x.f0.size ≤ 1048576) →
    ∃ r, laws_szTaxRuleS.l0 k l a (i : Int) = some r ∧ (r < 0 ∨ (0 ≤ r ∧ ∀ j x, j < l.length → l[j]? = some x → x.f0.size ≤ 1048576)) := by
  intro d
  induction d with
  | zero =>
    intro i k a hi hk h0 h1 hs
    obtain ⟨k, rfl⟩ : ∃ m, k = m + 1 := ⟨k - 1, by omega⟩
    simp only [laws_szTaxRuleS.l0]
    rw [if_neg (by omega)]
    exact ⟨a, rfl, .inr ⟨h0, fun j x hj => hs j x (by omega)⟩⟩
  | succ d ih =>
    intro i k a hi hk h0 h1 hs
    obtain ⟨k, rfl⟩ : ∃ m, k = m + 1 := ⟨k - 1, by omega⟩
    simp only [laws_szTaxRuleS.l0]
    have hli : i < l.length := by omega
    have hxi : l[i]? = some (l[i]'hli) := List.getElem?_eq_getElem hli
    rw [if_pos (by omega), if_pos (by omega), w64i hli hl]
    unfold rd_T68
    rw [getD_of hxi]
    obtain ⟨r, hr, hc⟩ := szTaxRule_spec (l[i]'hli) a h0 h1 (hx _ (List.getElem_mem hli))
    rw [hr]
    simp only [Option.bind_some]
    rcases hc with hc | ⟨hc0, hc1, hc2⟩
    · rw [if_pos hc]; exact ⟨_, rfl, .inl (by omega)⟩
    · rw [if_neg (by omega)]
      refine ih (i + 1) k r (by omega) (by omega) hc0 (by omega) (fun j x hj hjx => ?_)
      rcases Nat.lt_succ_iff_lt_or_eq.1 hj with h | rfl
      · exact hs j x h hjx
      · rw [hxi] at hjx
        obtain rfl := Option.some.inj hjx
        omega
theorem szTaxRuleS_spec (l : List S68) (hl : l.length ≤ 9223372036854775807) (hx : ∀ x ∈ l, x.f0.size ≤ maxLen) (k : Nat) (hk : l.length < k) :
    ∃ r, laws_szTaxRuleS.f k l 1048576 = some r ∧ (r < 0 ∨ (0 ≤ r ∧ l.length ≤ 1048576 ∧ ∀ x ∈ l, x.f0.size ≤ 1048576)) := by
  unfold laws_szTaxRuleS.f
  rw [w64 (by omega) (by omega)]
  by_cases h : (1048576 - (l.length : Int)) < 0
  · exact ⟨_, if_pos h, .inl (by omega)⟩
  · rw [if_neg h]
    obtain ⟨r, hr, hc⟩ := szTaxRuleS_loop l hl hx l.length 0 k (1048576 - (l.length : Int)) (by omega) hk (by omega) (by omega) (fun j x hj => by omega)
    refine ⟨r, hr, ?_⟩
    rcases hc with hc | ⟨hc0, hc1⟩
    · exact .inl hc
    · refine .inr ⟨hc0, by omega, fun x hxm => ?_⟩
      obtain ⟨j, hj, rfl⟩ := List.getElem_of_mem hxm
      exact hc1 j _ hj (List.getElem?_eq_getElem hj)

def nameB (b : Int) : Bool := decide ((b ≥ 97 ∧ b ≤ 122) ∨ (b ≥ 65 ∧ b ≤ 90) ∨ (b ≥ 48 ∧ b ≤ 57) ∨ b = 45 ∨ b = 95 ∨ b = 46)
theorem nameByte_eq (b : Int) : impl_nameByte.f b = some (nameB b) := by
  by_cases hb : nameB b = true
  · have h := hb
    unfold nameB at h
    rw [decide_eq_true_eq] at h
    rw [hb]
    unfold impl_nameByte.f
    repeat' split
    all_goals first | rfl | (exfalso; omega) | (congr 1; rw [beq_iff_eq]; omega)
  · have h := hb
    unfold nameB at h
    rw [decide_eq_true_eq] at h
    rw [Bool.not_eq_true] at hb
    rw [hb]
    unfold impl_nameByte.f
    repeat' split
    all_goals first | rfl | (exfalso; omega) | (congr 1; rw [beq_eq_false_iff_ne]; omega)
def nameStop (s : ByteArray) (i : Nat) : Option Bool := if nameB (bt s i) = true then none else some false
theorem nameSpec_step (k : Nat) (s : ByteArray) (i : Nat) (hi : i < s.size) (hs : s.size ≤ 9223372036854775807) :
    spec_NameOk.l0 (k + 1) s (i : Int) = if nameB (bt s i) = true then spec_NameOk.l0 k s ((i + 1 : Nat) : Int) else some false := by
  simp only [spec_NameOk.l0]
  rw [if_pos (by omega), if_pos (by omega), w64i hi hs]
  generalize bt s (i : Int) = b
  generalize spec_NameOk.l0 k s ((i + 1 : Nat) : Int) = X
  by_cases hb : nameB b = true
  · rw [if_pos hb]
    unfold nameB at hb
    rw [decide_eq_true_eq] at hb
    repeat' split
    all_goals first | rfl | (exfalso; omega)
  · rw [if_neg hb]
    unfold nameB at hb
    rw [decide_eq_true_eq] at hb
    repeat' split
    all_goals first | rfl | (exfalso; omega)
theorem nameSpec_end (k : Nat) (s : ByteArray) : spec_NameOk.l0 (k + 1) s (s.size : Int) = some (decide (1 ≤ s.size ∧ s.size ≤ 20)) := by
  simp only [spec_NameOk.l0]
  rw [if_neg (by omega)]
  unfold spec_l1In.f
  by_cases h : (s.size : Int) ≥ 1
  · rw [if_pos h]; simp only [Option.bind_some]; congr 1; rw [decide_eq_decide]; omega
  · rw [if_neg h]; simp only [Option.bind_some]; congr 1; symm; rw [decide_eq_false_iff_not]; omega
theorem nameSpec_eq (s : ByteArray) (hs : s.size ≤ 9223372036854775807) (k : Nat) (hk : s.size < k) : spec_NameOk.f k s = some (scan (nameStop s) (decide (1 ≤ s.size ∧ s.size ≤ 20)) s.size 0) := by
  unfold spec_NameOk.f
  refine loop_scan0 (fun k i => spec_NameOk.l0 k s i) s.size 0 (nameStop s) _ ?_ ?_ ?_ k (by omega)
  · intro k i r _ hi h
    rw [nameSpec_step k s i hi hs]
    unfold nameStop at h
    split at h
    · cases h
    · rename_i hb; rw [if_neg hb]; exact h
  · intro k i _ hi h
    rw [nameSpec_step k s i hi hs]
    unfold nameStop at h
    split at h
    · rename_i hb; rw [if_pos hb]
    · cases h
  · intro k _; exact nameSpec_end k s
theorem nameImpl_step (k : Nat) (s : ByteArray) (i : Nat) (hi : i < s.size) (hs : s.size ≤ 9223372036854775807) :
    impl_NameOk.l0 (k + 1) s (i : Int) = if nameB (bt s i) = true then impl_NameOk.l0 k s ((i + 1 : Nat) : Int) else some false := by
  simp only [impl_NameOk.l0]
  rw [if_pos (by omega), if_pos (by omega), w64i hi hs, nameByte_eq]
  rfl
theorem nameImpl_loop (s : ByteArray) (hs : s.size ≤ 9223372036854775807) (k : Nat) (hk : s.size < k) : impl_NameOk.l0 k s 0 = some (scan (nameStop s) true s.size 0) := by
  refine loop_scan0 (fun k i => impl_NameOk.l0 k s i) s.size 0 (nameStop s) _ ?_ ?_ ?_ k (by omega)
  · intro k i r _ hi h
    rw [nameImpl_step k s i hi hs]
    unfold nameStop at h
    split at h
    · cases h
    · rename_i hb; rw [if_neg hb]; exact h
  · intro k i _ hi h
    rw [nameImpl_step k s i hi hs]
    unfold nameStop at h
    split at h
    · rename_i hb; rw [if_pos hb]
    · cases h
  · intro k _
    simp only [impl_NameOk.l0]
    rw [if_neg (by omega)]
/-- What a name is. -/
def nameOk (s : ByteArray) : Bool := decide (1 ≤ s.size ∧ s.size ≤ 20) && scan (nameStop s) true s.size 0
theorem nameSpec (s : ByteArray) (hs : s.size ≤ 9223372036854775807) (k : Nat) (hk : s.size < k) : spec_NameOk.f k s = some (nameOk s) := by
  rw [nameSpec_eq s hs k hk]
  congr 1
  unfold nameOk
  by_cases h : 1 ≤ s.size ∧ s.size ≤ 20
  · rw [decide_eq_true h, Bool.true_and]
  · rw [decide_eq_false h, Bool.false_and]
    rcases scan_cases (nameStop s) false s.size 0 with ⟨j, r, _, _, h3, _, h5⟩ | ⟨_, h2⟩
    · rw [h5]
      unfold nameStop at h3
      split at h3
      · cases h3
      · exact (Option.some.inj h3).symm
    · exact h2
theorem nameImpl (s : ByteArray) (hs : s.size ≤ 9223372036854775807) (k : Nat) (hk : s.size + 1 < k) : impl_NameOk.f k s = some (nameOk s) := by
  obtain ⟨k, rfl⟩ : ∃ m, k = m + 1 := ⟨k - 1, by omega⟩
  unfold impl_NameOk.f nameOk
  by_cases h1 : (s.size : Int) < 1
  · rw [if_pos h1, decide_eq_false (by omega), Bool.false_and]
    rfl
  · rw [if_neg h1]
    simp only [impl_NameOk.j0]
    by_cases h2 : (s.size : Int) > 20
    · rw [if_pos (decide_eq_true h2), decide_eq_false (by omega), Bool.false_and]
    · rw [if_neg (by simpa using h2), nameImpl_loop s hs k (by omega), decide_eq_true (by omega), Bool.true_and]

theorem two_dec (a b : Prop) [Decidable a] [Decidable b] : (if a then some (decide b) else some false) = some (decide (a ∧ b)) := by
  by_cases h : a
  · rw [if_pos h]; congr 1; rw [decide_eq_decide]; exact ⟨fun hb => ⟨h, hb⟩, fun hb => hb.2⟩
  · rw [if_neg h]; congr 1; symm; rw [decide_eq_false_iff_not]; exact fun hb => h hb.1

theorem l1In_eq (a b c : Int) : spec_l1In.f a b c = some (decide (b ≤ a ∧ a ≤ c)) := by unfold spec_l1In.f; exact two_dec (a ≥ b) (a ≤ c)

theorem l2Day_eq (a : Int) : spec_l2Day.f a = some (decide (0 ≤ a ∧ a ≤ 40000)) := by unfold spec_l2Day.f; rw [l1In_eq]; rfl

theorem between_eq (a b c : Int) : impl_between.f a b c = some (decide (b ≤ a ∧ a ≤ c)) := by unfold impl_between.f; exact two_dec (a ≥ b) (a ≤ c)

theorem isDay_eq (a : Int) : impl_isDay.f a = some (decide (0 ≤ a ∧ a ≤ 40000)) := by unfold impl_isDay.f; rw [between_eq]; rfl

def taxB (x : S69) : Bool := nameOk x.f0 && (decide (0 ≤ x.f1 ∧ x.f1 ≤ 40000) && (decide (0 ≤ x.f2 ∧ x.f2 ≤ 40000) && (decide (¬ x.f1 > x.f2) && (decide (0 ≤ x.f3 ∧ x.f3 ≤ 1000000) && decide (1 ≤ x.f4 ∧ x.f4 ≤ 4)))))
def clash (p x : S69) : Bool := decide (p.f0.toList = x.f0.toList ∧ p.f1 ≤ x.f2 ∧ x.f1 ≤ p.f2)
def taxStop (l : List S69) (i : Nat) : Option Bool := if (taxB (rd_T69 l i) && !anyIn (fun j => clash (rd_T69 l j) (rd_T69 l i)) i 0) = true then none else some false
theorem rd_mem (l : List S69) (i : Nat) (hi : i < l.length) : rd_T69 l (i : Int) ∈ l := by
  unfold rd_T69
  rw [getD_of (List.getElem?_eq_getElem hi)]
  exact List.getElem_mem hi
theorem clash_if {ρ : Type} (p x : S69) (X Y : ρ) : (if p.f0.toList = x.f0.toList then (if p.f1 ≤ x.f2 then (if x.f1 ≤ p.f2 then X else Y) else Y) else Y) = if clash p x = true then X else Y := by
  unfold clash
  by_cases h1 : p.f0.toList = x.f0.toList
  · rw [if_pos h1]
    by_cases h2 : p.f1 ≤ x.f2
    · rw [if_pos h2]
      by_cases h3 : x.f1 ≤ p.f2
      · rw [if_pos h3, if_pos (decide_eq_true ⟨h1, h2, h3⟩)]
      · rw [if_neg h3, if_neg (by rw [decide_eq_true_eq]; exact fun h => h3 h.2.2)]
    · rw [if_neg h2, if_neg (by rw [decide_eq_true_eq]; exact fun h => h2 h.2.1)]
  · rw [if_neg h1, if_neg (by rw [decide_eq_true_eq]; exact fun h => h1 h.1)]
theorem taxSpec_in (l : List S69) (x : S69) (i : Nat) (hi : i < l.length) (hl : l.length ≤ 9223372036854775807) : ∀ (d j k : Nat), j + d = i → d + 1 ≤ k →
    spec_TaxRulesOk.l1 k l (i : Int) (j : Int) x.f0 x.f1 x.f2 x.f3 x.f4 = if anyIn (fun j => clash (rd_T69 l j) x) d j = true then some false else spec_TaxRulesOk.l0 (k - (d + 1)) l ((i + 1 : Nat) : Int) := by
  intro d
  induction d with
  | zero =>
    intro j k hj hk
    obtain ⟨k, rfl⟩ : ∃ m, k = m + 1 := ⟨k - 1, by omega⟩
    simp only [spec_TaxRulesOk.l1]
    rw [if_neg (by omega), w64i hi hl]
    rfl
  | succ d ih =>
    intro j k hj hk
    obtain ⟨k, rfl⟩ : ∃ m, k = m + 1 := ⟨k - 1, by omega⟩
    simp only [spec_TaxRulesOk.l1]
    rw [if_pos (by omega), if_pos (by omega), if_pos (by omega), clash_if, w64i (show j < l.length by omega) hl, ih (j + 1) k (by omega) (by omega)]
    have e : k + 1 - (d + 1 + 1) = k - (d + 1) := by omega
    rw [e]
    show _ = if (clash (rd_T69 l j) x || anyIn (fun j => clash (rd_T69 l j) x) d (j + 1)) = true then _ else _
    cases clash (rd_T69 l j) x <;> simp
theorem taxSpec_step (l : List S69) (hl : l.length ≤ 60) (hs : ∀ x ∈ l, x.f0.size ≤ 1048576) (k i : Nat) (hk : 1048600 ≤ k) (hi : i < l.length) :
    ∃ k', k ≤ k' ∧ spec_TaxRulesOk.l0 (k + 100) l (i : Int) = goOn (taxStop l i) (spec_TaxRulesOk.l0 k' l ((i + 1 : Nat) : Int)) := by
  refine ⟨k + 98 - (i + 1), by omega, ?_⟩
  have j1 : ∀ b, spec_TaxRulesOk.j1 (k + 99) l (i : Int) b (rd_T69 l i).f0 (rd_T69 l i).f1 (rd_T69 l i).f2 (rd_T69 l i).f3 (rd_T69 l i).f4 =
      if (!b && !anyIn (fun j => clash (rd_T69 l j) (rd_T69 l i)) i 0) = true then spec_TaxRulesOk.l0 (k + 98 - (i + 1)) l ((i + 1 : Nat) : Int) else some false := by
    intro b
    simp only [spec_TaxRulesOk.j1]
    have := taxSpec_in l (rd_T69 l i) i hi (by omega) i 0 (k + 98) (by omega) (by omega)
    rw [show ((0 : Nat) : Int) = 0 from rfl] at this
    rw [this]
    cases b <;> cases anyIn (fun j => clash (rd_T69 l j) (rd_T69 l i)) i 0 <;> rfl
  simp only [spec_TaxRulesOk.l0]
  have hz := hs _ (rd_mem l i hi)
  rw [if_pos (by omega), if_pos (by omega), nameSpec _ (by omega) _ (by omega)]
  simp only [l2Day_eq, l1In_eq, Option.bind_some, j1]
  unfold taxStop taxB
  rw [goOn_if]
  generalize nameOk (rd_T69 l i).f0 = c0
  generalize decide (0 ≤ (rd_T69 l i).f1 ∧ (rd_T69 l i).f1 ≤ 40000) = c1
  generalize decide (0 ≤ (rd_T69 l i).f2 ∧ (rd_T69 l i).f2 ≤ 40000) = c2
  generalize decide (0 ≤ (rd_T69 l i).f3 ∧ (rd_T69 l i).f3 ≤ 1000000) = c3
  generalize decide (1 ≤ (rd_T69 l i).f4 ∧ (rd_T69 l i).f4 ≤ 4) = c4
  generalize anyIn (fun j => clash (rd_T69 l j) (rd_T69 l i)) i 0 = c5
  by_cases h : (rd_T69 l i).f1 > (rd_T69 l i).f2
  · rw [if_pos h, decide_eq_false (fun q => q h)]
    cases c0 <;> cases c1 <;> cases c2 <;> simp
  · rw [if_neg h, decide_eq_true h]
    cases c0 <;> cases c1 <;> cases c2 <;> cases c3 <;> cases c4 <;> simp
theorem taxImpl_in (l : List S69) (x : S69) (i : Nat) (hi : i < l.length) (hl : l.length ≤ 9223372036854775807) : ∀ (d j k : Nat), j + d = i → d + 1 ≤ k →
    impl_TaxRulesOk.l1 k l l (l.length : Int) (i : Int) (l.take i) ((l.take i).length : Int) (j : Int) x.f0 x.f1 x.f2 x.f3 x.f4 = if anyIn (fun j => clash (rd_T69 l j) x) d j = true then some false else impl_TaxRulesOk.l0 (k - (d + 1)) l l (l.length : Int) ((i + 1 : Nat) : Int) := by
  have hm : (l.take i).length = i := by rw [List.length_take]; omega
  have hr : ∀ j, j < i → rd_T69 (l.take i) (j : Nat) = rd_T69 l (j : Nat) := by
    intro j hj
    unfold rd_T69
    rw [Int.toNat_natCast, List.getD_eq_getElem?_getD, List.getD_eq_getElem?_getD, List.getElem?_take_of_lt hj]
  intro d
  induction d with
  | zero =>
    intro j k hj hk
    obtain ⟨k, rfl⟩ : ∃ m, k = m + 1 := ⟨k - 1, by omega⟩
    simp only [impl_TaxRulesOk.l1]
    rw [if_neg (by omega), w64i hi hl]
    rfl
  | succ d ih =>
    intro j k hj hk
    obtain ⟨k, rfl⟩ : ∃ m, k = m + 1 := ⟨k - 1, by omega⟩
    simp only [impl_TaxRulesOk.l1]
    rw [if_pos (by omega), if_pos (by omega), if_pos (by omega), hr j (by omega), clash_if, w64i (show j < l.length by omega) hl, ih (j + 1) k (by omega) (by omega)]
    have e : k + 1 - (d + 1 + 1) = k - (d + 1) := by omega
    rw [e]
    show _ = if (clash (rd_T69 l j) x || anyIn (fun j => clash (rd_T69 l j) x) d (j + 1)) = true then _ else _
    cases clash (rd_T69 l j) x <;> simp
theorem taxImpl_step (l : List S69) (hl : l.length ≤ 60) (hs : ∀ x ∈ l, x.f0.size ≤ 1048576) (k i : Nat) (hk : 1048600 ≤ k) (hi : i < l.length) :
    ∃ k', k ≤ k' ∧ impl_TaxRulesOk.l0 (k + 100) l l (l.length : Int) (i : Int) = goOn (taxStop l i) (impl_TaxRulesOk.l0 k' l l (l.length : Int) ((i + 1 : Nat) : Int)) := by
  refine ⟨k + 98 - (i + 1), by omega, ?_⟩
  have j1 : ∀ b, impl_TaxRulesOk.j1 (k + 99) l (i : Int) l (l.length : Int) (i : Int) b (rd_T69 l i).f0 (rd_T69 l i).f1 (rd_T69 l i).f2 (rd_T69 l i).f3 (rd_T69 l i).f4 =
      if (!b && !anyIn (fun j => clash (rd_T69 l j) (rd_T69 l i)) i 0) = true then impl_TaxRulesOk.l0 (k + 98 - (i + 1)) l l (l.length : Int) ((i + 1 : Nat) : Int) else some false := by
    intro b
    simp only [impl_TaxRulesOk.j1]
    rw [if_pos (show (0 : Int) ≤ (i : Int) by omega), if_pos (show (i : Int) ≤ (l.length : Int) by omega), Int.toNat_natCast]
    simp only [Option.bind_some]
    have := taxImpl_in l (rd_T69 l i) i hi (by omega) i 0 (k + 98) (by omega) (by omega)
    rw [show ((0 : Nat) : Int) = 0 from rfl] at this
    rw [this]
    cases b <;> cases anyIn (fun j => clash (rd_T69 l j) (rd_T69 l i)) i 0 <;> rfl
  simp only [impl_TaxRulesOk.l0]
  have hz := hs _ (rd_mem l i hi)
  rw [if_pos (by omega), if_pos (by omega), if_pos (by omega), nameImpl _ (by omega) _ (by omega)]
  simp only [isDay_eq, between_eq, Option.bind_some, j1]
  unfold taxStop taxB
  rw [goOn_if]
  generalize nameOk (rd_T69 l i).f0 = c0
  generalize decide (0 ≤ (rd_T69 l i).f1 ∧ (rd_T69 l i).f1 ≤ 40000) = c1
  generalize decide (0 ≤ (rd_T69 l i).f2 ∧ (rd_T69 l i).f2 ≤ 40000) = c2
  generalize decide (0 ≤ (rd_T69 l i).f3 ∧ (rd_T69 l i).f3 ≤ 1000000) = c3
  generalize decide (1 ≤ (rd_T69 l i).f4 ∧ (rd_T69 l i).f4 ≤ 4) = c4
  generalize anyIn (fun j => clash (rd_T69 l j) (rd_T69 l i)) i 0 = c5
  by_cases h : (rd_T69 l i).f1 > (rd_T69 l i).f2
  · rw [if_pos h, decide_eq_false (fun q => q h)]
    cases c0 <;> cases c1 <;> cases c2 <;> simp
  · rw [if_neg h, decide_eq_true h]
    cases c0 <;> cases c1 <;> cases c2 <;> cases c3 <;> cases c4 <;> simp
def taxOk (l : List S69) : Bool := decide (l.length ≤ 60) && scan (taxStop l) true l.length 0
theorem taxSpec_eq (l : List S69) (hs : ∀ x ∈ l, x.f0.size ≤ 1048576) (k : Nat) (hk : 3000000 ≤ k) : spec_TaxRulesOk.f k l = some (taxOk l) := by
  unfold spec_TaxRulesOk.f taxOk
  by_cases h1 : (l.length : Int) > 60
  · rw [if_pos h1, decide_eq_false (by omega)]; rfl
  · rw [if_neg h1, decide_eq_true (by omega)]
    simp only [Bool.true_and]
    refine loop_scanX0 (fun k i => spec_TaxRulesOk.l0 k l i) l.length 1048600 100 (taxStop l) true ?_ ?_ k (by omega)
    · intro k i hk hi; exact taxSpec_step l (by omega) hs k i hk hi
    · intro k _
      simp only [spec_TaxRulesOk.l0]
      rw [if_neg (by omega)]
theorem taxImpl_eq (l : List S69) (hs : ∀ x ∈ l, x.f0.size ≤ 1048576) (k : Nat) (hk : 3000000 ≤ k) : impl_TaxRulesOk.f k l = some (taxOk l) := by
  unfold impl_TaxRulesOk.f taxOk
  by_cases h1 : (l.length : Int) > 60
  · rw [if_pos h1, decide_eq_false (by omega)]; rfl
  · rw [if_neg h1, decide_eq_true (by omega)]
    simp only [Bool.true_and]
    refine loop_scanX0 (fun k i => impl_TaxRulesOk.l0 k l l (l.length : Int) i) l.length 1048600 100 (taxStop l) true ?_ ?_ k (by omega)
    · intro k i hk hi; exact taxImpl_step l (by omega) hs k i hk hi
    · intro k _
      simp only [impl_TaxRulesOk.l0]
      rw [if_neg (by omega)]
theorem FnExactTaxRulesOk : laws_FnExactTaxRulesOk.Pure := by
  intro l ⟨hl, hx⟩
  refine ⟨10000000 + l.length, ?_⟩
  unfold laws_FnExactTaxRulesOk.f
  obtain ⟨r, hr, hc⟩ := szTaxRuleS_spec l (by rw [maxLen_eq] at hl; exact hl) (fun x h => (hx x h).1) (10000000 + l.length) (by omega)
  rw [hr]
  simp only [Option.bind_some]
  rcases hc with hc | ⟨hc0, hc, hs⟩
  · rw [if_pos hc]
  · have hm : (l.map cvTaxRule).length = l.length := by simp
    have hs' : ∀ x ∈ l.map cvTaxRule, x.f0.size ≤ 1048576 := by
      intro x hx
      obtain ⟨y, hy, rfl⟩ := List.mem_map.1 hx
      exact hs y hy
    rw [if_neg (by omega), toTaxRuleS_eq l hc _ (by omega)]
    simp only [Option.bind_some]
    rw [taxSpec_eq _ hs' _ (by omega), taxImpl_eq _ hs' _ (by omega)]
    simp only [Option.bind_some]
    rw [if_neg (by simp), eqTaxRuleS_refl _ (by omega) _ (by omega)]
    rfl

end Go.Proofs.Ytegkhdobjcdfnae.Pure
