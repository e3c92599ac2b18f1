/- The program's ThingOk answers as the reference's at every thing, which reads as before. Conditions: none. -/
import Derived.Test.YtegkhdobjcdfnaePFnExactThingOkx0
import Derived.Test.YtegkhdobjcdfnaePFnExactThingOkx1
import Derived.Test.YtegkhdobjcdfnaePFnExactThingOkx2
import Derived.Test.YtegkhdobjcdfnaePFnExactThingOkx3
import Derived.Test.YtegkhdobjcdfnaePFnExactThingOkx4
import Derived.Test.YtegkhdobjcdfnaePFnExactThingOkx5
import Derived.Test.YtegkhdobjcdfnaePureAid
import Derived.Test.YtegkhdobjcdfnaeWMore
namespace Go.Proofs.Ytegkhdobjcdfnae.Pure
open Go Go.RowKit Go.Proofs.Ytegkhdobjcdfnae.PFnExactThingOk Go.Proofs.YtegkhdobjcdfnaeW.PrintWords Go.Proofs.YtegkhdobjcdfnaeW.PrintLast Go.Proofs.Ytegkhdobjcdfnae.Aid
set_option linter.unusedVariables false
set_option linter.unusedSimpArgs false
set_option maxRecDepth 100000
/-- The one pure statement of the law. -/
def laws_FnExactThingOk.Pure : Prop := ∀ (a0_0 : Int) (a0_1 : Int) (a0_2 : Int) (a0_3 : Int) (a0_4 : Int) (l0_5 : List Int), (Lit.int .i64 a0_0).wf = true → (Lit.int .i64 a0_1).wf = true → (Lit.int .i64 a0_2).wf = true → (Lit.int .i64 a0_3).wf = true → (Lit.int .i64 a0_4).wf = true → (l0_5.length ≤ maxLen ∧ ∀ x ∈ l0_5, (Lit.int .i64 x).wf = true) → ∃ k, laws_FnExactThingOk.f k a0_0 a0_1 a0_2 a0_3 a0_4 l0_5 = some true
theorem szIntS_eq (l : List Int) (a : Int) (h0 : -9223372036854775808 ≤ a - l.length) (h1 : a - l.length ≤ 9223372036854775807) : laws_szIntS.f l a = some (if a - (l.length : Int) < 0 then (-1 : Int) else a - (l.length : Int)) := by
  unfold laws_szIntS.f
  rw [w64 h0 h1]
  split <;> rfl

theorem toIntS_eq (l : List Int) (hl : l.length ≤ 35184372088832) (k : Nat) (hk : l.length < k) : laws_toIntS.f k l = some l := by
  unfold laws_toIntS.f
  rw [if_pos (by omega), if_pos (by omega)]
  have h := loop_fill0 (fun k acc i => laws_toIntS.l0 k l acc i) l id 0 ?_ ?_ k (by omega) (List.replicate ((l.length : Int) : Int).toNat 0) (by simp)
  · rw [List.map_id] at h; exact h
  · intro k acc i x _ hi ha hx
    simp only [laws_toIntS.l0]
    rw [if_pos (by omega), if_pos (by omega), if_pos (by omega), w64i hi (by omega)]
    unfold rd
    rw [getD_of hx, Int.toNat_natCast]
    rfl
  · intro k acc _
    simp only [laws_toIntS.l0]
    rw [if_neg (by omega)]

theorem eqIntS_refl (l : List Int) (hl : l.length ≤ 9223372036854775807) (k : Nat) (hk : l.length < k) : laws_eqIntS.f k l l = some true := by
  unfold laws_eqIntS.f
  rw [if_pos rfl, loop_scan0 (fun k i => laws_eqIntS.l0 k l l i) l.length 0 (fun _ => none) true ?_ ?_ ?_ k (by omega), scan_false _ _ (fun _ _ _ => rfl)]
  · intro k i r _ hi h
    cases h
  · intro k i _ hi h
    simp only [laws_eqIntS.l0]
    rw [if_pos (by omega), if_pos (by omega), if_pos (by omega), if_pos trivial, w64i hi (by omega)]
  · intro k _
    simp only [laws_eqIntS.l0]
    rw [if_neg (by omega)]

theorem two_dec (a b : Prop) [Decidable a] [Decidable b] : (if a then some (decide b) else some false) = some (decide (a ∧ b)) := by
  by_cases h : a
  · rw [if_pos h]; congr 1; rw [decide_eq_decide]; exact ⟨fun hb => ⟨h, hb⟩, fun hb => hb.2⟩
  · rw [if_neg h]; congr 1; symm; rw [decide_eq_false_iff_not]; exact fun hb => h hb.1

theorem l1In_eq (a b c : Int) : spec_l1In.f a b c = some (decide (b ≤ a ∧ a ≤ c)) := by unfold spec_l1In.f; exact two_dec (a ≥ b) (a ≤ c)

theorem l13Rate_eq (a : Int) : spec_l13Rate.f a = some (decide (0 ≤ a ∧ a ≤ 100000)) := by unfold spec_l13Rate.f; rw [l1In_eq]; rfl

theorem l1Factor_eq (a : Int) : spec_l1Factor.f a = some (decide (0 ≤ a ∧ a ≤ 10000000)) := by unfold spec_l1Factor.f; rw [l1In_eq]; rfl

theorem between_eq (a b c : Int) : impl_between.f a b c = some (decide (b ≤ a ∧ a ≤ c)) := by unfold impl_between.f; exact two_dec (a ≥ b) (a ≤ c)

theorem rateOk_eq (a : Int) : impl_rateOk.f a = some (decide (0 ≤ a ∧ a ≤ 100000)) := by unfold impl_rateOk.f; rw [between_eq]; rfl

theorem factor_eq (a : Int) : impl_factor.f a = some (decide (0 ≤ a ∧ a ≤ 10000000)) := by unfold impl_factor.f; rw [between_eq]; rfl

theorem money_eq (a : Int) : impl_money.f a = some (decide (0 ≤ a ∧ a ≤ 100000000000)) := by unfold impl_money.f; rw [between_eq]; rfl

def sumFrom (l : List Int) : Nat → Nat → Int → Int := foldS (fun i s => Sum.inr (wrap64 (s + rd l i))) id
theorem sumOf_loop (l : List Int) (hl : l.length ≤ 9223372036854775807) (k : Nat) (s : Int) (hk : l.length + 1 ≤ k) : impl_sumOf.l0 k s l (l.length : Int) 0 = some (sumFrom l l.length 0 s) := by
  refine loop_fold0 (fun k i s => impl_sumOf.l0 k s l (l.length : Int) i) l.length 0 1 _ id (fun _ _ => True) ?_ ?_ ?_ k s (by omega) trivial
  · intro k i s _ hi _
    simp only [impl_sumOf.l0]
    rw [if_pos (by omega), if_pos (by omega), if_pos (by omega), w64i hi hl]
    rfl
  · intros; trivial
  · intro k s _ _
    simp only [impl_sumOf.l0]
    rw [if_neg (by omega)]; rfl
theorem sumOf_eq (l : List Int) (hl : l.length ≤ 9223372036854775807) (k : Nat) (hk : l.length + 1 ≤ k) : impl_sumOf.f k l = some (sumFrom l l.length 0 0) := by
  unfold impl_sumOf.f; exact sumOf_loop l hl k 0 hk

def facB (x : Int) : Bool := decide (0 ≤ x ∧ x ≤ 10000000)
def facStop (l : List Int) (i : Nat) : Option Bool := if facB (rd l i) = true then none else some false
def facStep (l : List Int) (i : Nat) (s : Int) : Bool ⊕ Int := if facB (rd l i) = true then .inr (wrap64 (s + rd l i)) else .inl false
theorem fac_same (l : List Int) : ∀ (d i : Nat) (s : Int), foldS (facStep l) (fun s => decide (s > 0)) d i s = scan (facStop l) (decide (sumFrom l d i s > 0)) d i := by
  intro d
  induction d with
  | zero => intro i s; rfl
  | succ d ih =>
    intro i s
    unfold foldS scan facStep facStop
    by_cases h : facB (rd l i) = true
    · rw [if_pos h, if_pos h]
      exact ih (i + 1) _
    · rw [if_neg h, if_neg h]
def tail (y m : Int) (l : List Int) : Bool := if m = 6 then (if (l.length : Int) = y then scan (facStop l) (decide (sumFrom l l.length 0 0 > 0)) l.length 0 else false) else (l.length : Int) == 0
theorem j1Spec (k : Nat) (b : Bool) (c r y m q : Int) (l : List Int) (hl : l.length ≤ 9223372036854775807) (hk : l.length + 1 ≤ k) : spec_ThingOk.j1 (k + 1) b c r y m q l = some (!b && tail y m l) := by
  simp only [spec_ThingOk.j1]
  cases b with
  | true => rfl
  | false =>
    rw [if_neg (by simp)]
    unfold tail
    simp only [Bool.not_false, Bool.true_and]
    by_cases h1 : m = 6
    · rw [if_pos h1, if_pos h1]
      by_cases h2 : (l.length : Int) = y
      · rw [if_pos h2, if_pos h2, ← fac_same]
        refine loop_fold0 (fun k i s => spec_ThingOk.l0 k s i c r y m q l) l.length 0 1 (facStep l) (fun s => decide (s > 0)) (fun _ _ => True) ?_ ?_ ?_ k 0 (by omega) trivial
        · intro k i s _ hi _
          simp only [spec_ThingOk.l0]
          rw [if_pos (by omega), if_pos (by omega), w64i hi hl, l1Factor_eq]
          simp only [Option.bind_some]
          unfold facStep facB
          cases decide (0 ≤ rd l i ∧ rd l i ≤ 10000000) <;> rfl
        · intros; trivial
        · intro k s _ _
          simp only [spec_ThingOk.l0]
          rw [if_neg (by omega)]
      · rw [if_neg h2, if_neg h2]
    · rw [if_neg h1, if_neg h1]
theorem j1Impl (k : Nat) (b : Bool) (c r y m q : Int) (l : List Int) (hl : l.length ≤ 9223372036854775807) (hk : 2 * l.length + 4 ≤ k) : impl_ThingOk.j1 (k + 1) b c r y m q l = some (!b && tail y m l) := by
  simp only [impl_ThingOk.j1]
  cases b with
  | true => rfl
  | false =>
    rw [if_neg (by simp)]
    unfold tail
    simp only [Bool.not_false, Bool.true_and]
    by_cases h1 : m = 6
    · rw [if_pos h1, if_pos h1]
      by_cases h2 : (l.length : Int) = y
      · rw [if_pos h2, if_pos h2]
        refine loop_scanM0 (fun k i => impl_ThingOk.l0 k l (l.length : Int) i c r y m q l) l.length (l.length + 1) 1 (facStop l) _ ?_ ?_ k (by omega)
        · intro k i _ hi
          simp only [impl_ThingOk.l0]
          rw [if_pos (by omega), if_pos (by omega), if_pos (by omega), w64i hi hl, factor_eq]
          simp only [Option.bind_some]
          unfold facStop facB
          cases decide (0 ≤ rd l i ∧ rd l i ≤ 10000000) <;> rfl
        · intro k hk
          simp only [impl_ThingOk.l0]
          rw [if_neg (by omega), sumOf_eq l hl k (by omega)]
          rfl
      · rw [if_neg h2, if_neg h2]
    · rw [if_neg h1, if_neg h1]
def rated (m q : Int) : Bool := decide (q = 0) || (decide (m = 2) || decide (m = 3))
theorem j0Spec (k : Nat) (b : Bool) (c r y m q : Int) (l : List Int) (hl : l.length ≤ 9223372036854775807) (hk : l.length + 1 ≤ k) : spec_ThingOk.j0 (k + 2) b c r y m q l = some (!b && (rated m q && tail y m l)) := by
  simp only [spec_ThingOk.j0]
  cases b with
  | true => rfl
  | false =>
    rw [if_neg (by simp)]
    unfold rated
    simp only [j1Spec k _ c r y m q l hl hk]
    by_cases h1 : q = 0
    · rw [if_pos h1, decide_eq_true h1]; simp
    · rw [if_neg h1, decide_eq_false h1]
      by_cases h2 : m = 2
      · rw [if_pos h2, decide_eq_true h2]; simp
      · rw [if_neg h2, decide_eq_false h2]
        by_cases h3 : m = 3
        · subst h3; simp
        · rw [decide_eq_false h3]; simp [h3]
theorem j0Impl (k : Nat) (b : Bool) (c r y m q : Int) (l : List Int) (hl : l.length ≤ 9223372036854775807) (hk : 2 * l.length + 4 ≤ k) : impl_ThingOk.j0 (k + 2) b c r y m q l = some (!b && (rated m q && tail y m l)) := by
  simp only [impl_ThingOk.j0]
  cases b with
  | true => rfl
  | false =>
    rw [if_neg (by simp)]
    unfold rated
    simp only [j1Impl k _ c r y m q l hl hk]
    by_cases h2 : m = 2
    · rw [if_pos h2, decide_eq_true h2]; simp
    · rw [if_neg h2, decide_eq_false h2]
      by_cases h3 : m = 3
      · rw [if_pos h3, decide_eq_true h3]; simp
      · rw [if_neg h3, decide_eq_false h3]
        by_cases h1 : q = 0
        · subst h1; simp
        · rw [decide_eq_false h1]; simp [h1]
theorem thing_same (k : Nat) (c r y m q : Int) (l : List Int) (hl : l.length ≤ 9223372036854775807) (hk : 2 * l.length + 4 ≤ k) : ∃ v, spec_ThingOk.f (k + 2) c r y m q l = some v ∧ impl_ThingOk.f (k + 2) c r y m q l = some v := by
  unfold spec_ThingOk.f impl_ThingOk.f
  simp only [l1In_eq, l13Rate_eq, money_eq, between_eq, rateOk_eq, Option.bind_some, j0Spec k _ c r y m q l hl (by omega), j0Impl k _ c r y m q l hl hk]
  repeat' (first | exact ⟨_, rfl, rfl⟩ | split)
theorem FnExactThingOk : laws_FnExactThingOk.Pure := by
  intro c r y m q l _ _ _ _ _ ⟨hl, _⟩
  rw [maxLen_eq] at hl
  refine ⟨2 * l.length + 10, ?_⟩
  unfold laws_FnExactThingOk.f laws_szThing.f
  rw [szIntS_eq l _ (by omega) (by omega)]
  simp only [Option.bind_some]
  by_cases h : (1048576 : Int) - l.length < 0
  · rw [if_pos h]; rfl
  · rw [if_neg h, if_neg h]
    simp only [Option.bind_some]
    unfold laws_toThing.f
    rw [if_neg h, toIntS_eq l (by omega) _ (by omega)]
    simp only [Option.bind_some]
    obtain ⟨v, h1, h2⟩ := thing_same (2 * l.length + 8) c r y m q l hl (by omega)
    rw [h1, h2]
    simp only [Option.bind_some]
    unfold laws_eqThing.f
    rw [if_neg (by simp), eqIntS_refl l hl _ (by omega)]
    simp

end Go.Proofs.Ytegkhdobjcdfnae.Pure
