/- The program's LadderRate answers as the reference's at every ladder and quantity, and the ladder reads as before. Conditions: none. -/
import Derived.Test.YtegkhdobjcdfnabPFnExactLadderRatex0
import Derived.Test.YtegkhdobjcdfnabPFnExactLadderRatex1
import Derived.Test.YtegkhdobjcdfnabPFnExactLadderRatex2
import Derived.Test.YtegkhdobjcdfnabPFnExactLadderRatex3
import Derived.Test.YtegkhdobjcdfnabPFnExactLadderRatex4
import Derived.Test.YtegkhdobjcdfnabPureAid
import Derived.Test.YtegkhdobjcdfnabWMore
namespace Go.Proofs.Ytegkhdobjcdfnab.Pure
open Go Go.RowKit Go.Proofs.Ytegkhdobjcdfnab.PFnExactLadderRate Go.Proofs.YtegkhdobjcdfnabW.PrintWords Go.Proofs.YtegkhdobjcdfnabW.PrintLast Go.Proofs.Ytegkhdobjcdfnab.Aid
set_option linter.unusedVariables false
set_option linter.unusedSimpArgs false
set_option maxRecDepth 100000
/-- The one pure statement of the law. -/
def laws_FnExactLadderRate.Pure : Prop := ∀ (l0 : List S72) (a1 : Int), (l0.length ≤ maxLen ∧ ∀ x ∈ l0, ((Lit.int .i64 x.f0).wf = true ∧ (Lit.int .i64 x.f1).wf = true)) → (Lit.int .i64 a1).wf = true → ∃ k, laws_FnExactLadderRate.f k l0 a1 = some true
def cvRung (x : S72) : S70 := ⟨x.f0,x.f1⟩
theorem toRungS_eq (l : List S72) (hl : l.length ≤ 1048576) (k : Nat) (hk : l.length < k) : laws_toRungS.f k l = some (l.map cvRung) := by
  unfold laws_toRungS.f
  rw [if_pos (by omega), if_pos (by omega)]
  refine loop_fill0 (fun k acc i => laws_toRungS.l0 k l acc i) l cvRung 0 ?_ ?_ k (by omega) _ (by simp)
  · intro k acc i x _ hi ha hx
    simp only [laws_toRungS.l0]
    rw [if_pos (by omega), if_pos (by omega), w64i hi (by omega)]
    unfold laws_toRung.f rd_T72
    rw [getD_of hx]
    simp only [Option.bind_some]
    rw [if_pos (by omega), Int.toNat_natCast]
    rfl
  · intro k acc _
    simp only [laws_toRungS.l0]
    rw [if_neg (by omega)]

theorem eqRungS_refl (l : List S70) (hl : l.length ≤ 9223372036854775807) (k : Nat) (hk : l.length < k) : laws_eqRungS.f k l l = some true := by
  unfold laws_eqRungS.f
  rw [if_pos rfl]
  rw [loop_scan0 (fun k i => laws_eqRungS.l0 k l l i) l.length 0 (fun _ => none) true ?_ ?_ ?_ k (by omega), scan_false _ _ (fun _ _ _ => rfl)]
  · intro k i r _ hi h
    cases h
  · intro k i _ hi h
    simp only [laws_eqRungS.l0]
    rw [if_pos (by omega), if_pos (by omega), if_pos (by omega), w64i hi (by omega)]
    simp only [laws_eqRung.f, Option.bind_some, if_true]
  · intro k _
    simp only [laws_eqRungS.l0]
    rw [if_neg (by omega)]

theorem szRungS_spec (l : List S72) (hl : l.length ≤ 9223372036854775807) (k : Nat) (hk : l.length < k) : ∃ r, laws_szRungS.f l 1048576 = some r ∧ (r < 0 ∨ (0 ≤ r ∧ l.length ≤ 1048576)) := by
  unfold laws_szRungS.f
  rw [w64 (by omega) (by omega)]
  by_cases h : (1048576 - (l.length : Int)) < 0
  · exact ⟨_, if_pos h, .inl (by omega)⟩
  · exact ⟨_, if_neg h, .inr ⟨by omega, by omega⟩⟩

theorem two_dec (a b : Prop) [Decidable a] [Decidable b] : (if a then some (decide b) else some false) = some (decide (a ∧ b)) := by
  by_cases h : a
  · rw [if_pos h]; congr 1; rw [decide_eq_decide]; exact ⟨fun hb => ⟨h, hb⟩, fun hb => hb.2⟩
  · rw [if_neg h]; congr 1; symm; rw [decide_eq_false_iff_not]; exact fun hb => h hb.1

theorem l1In_eq (a b c : Int) : spec_l1In.f a b c = some (decide (b ≤ a ∧ a ≤ c)) := by unfold spec_l1In.f; exact two_dec (a ≥ b) (a ≤ c)

theorem l13Rate_eq (a : Int) : spec_l13Rate.f a = some (decide (0 ≤ a ∧ a ≤ 100000)) := by unfold spec_l13Rate.f; rw [l1In_eq]; rfl

theorem l12Qty_eq (a : Int) : spec_l12Qty.f a = some (decide (0 ≤ a ∧ a ≤ 1000000)) := by unfold spec_l12Qty.f; rw [l1In_eq]; rfl

theorem between_eq (a b c : Int) : impl_between.f a b c = some (decide (b ≤ a ∧ a ≤ c)) := by unfold impl_between.f; exact two_dec (a ≥ b) (a ≤ c)

theorem rateOk_eq (a : Int) : impl_rateOk.f a = some (decide (0 ≤ a ∧ a ≤ 100000)) := by unfold impl_rateOk.f; rw [between_eq]; rfl

theorem quantity_eq (a : Int) : impl_quantity.f a = some (decide (0 ≤ a ∧ a ≤ 1000000)) := by unfold impl_quantity.f; rw [between_eq]; rfl

theorem prev_w (i : Nat) (h : 0 < i) (hi : i ≤ 9223372036854775807) : wrap64 ((i : Int) - 1) = ((i - 1 : Nat) : Int) := by unfold wrap64; omega

def rungB (x : S70) : Bool := decide (0 ≤ x.f0 ∧ x.f0 ≤ 1000000) && decide (0 ≤ x.f1 ∧ x.f1 ≤ 100000)
def rungStop (l : List S70) (i : Nat) : Option Bool := if (rungB (rd_T70 l i) && (decide (i = 0) || decide (¬ (rd_T70 l ((i - 1 : Nat) : Int)).f0 ≥ (rd_T70 l i).f0))) = true then none else some false
theorem ladSpec_step (k : Nat) (l : List S70) (i : Nat) (hi : i < l.length) (hl : l.length ≤ 9223372036854775807) :
    spec_l13Ladder.l0 (k + 1) l (i : Int) = goOn (rungStop l i) (spec_l13Ladder.l0 k l ((i + 1 : Nat) : Int)) := by
  simp only [spec_l13Ladder.l0]
  rw [if_pos (by omega), if_pos (by omega), w64i hi hl]
  simp only [l12Qty_eq, l13Rate_eq, Option.bind_some]
  rw [prev_ifs i (l.length : Int) (by omega) (by omega) (fun j => (rd_T70 l j).f0 ≥ (rd_T70 l i).f0)]
  unfold rungStop rungB
  rw [goOn_if]
  generalize decide (0 ≤ (rd_T70 l i).f0 ∧ (rd_T70 l i).f0 ≤ 1000000) = c0
  generalize decide (0 ≤ (rd_T70 l i).f1 ∧ (rd_T70 l i).f1 ≤ 100000) = c1
  generalize (decide (i = 0) || decide (¬ (rd_T70 l ((i - 1 : Nat) : Int)).f0 ≥ (rd_T70 l i).f0)) = c2
  cases c0 <;> cases c1 <;> cases c2 <;> simp
def ladOk (l : List S70) : Bool := decide (l.length ≤ 20) && scan (rungStop l) true l.length 0
theorem ladSpec_eq (l : List S70) (hl : l.length ≤ 9223372036854775807) (k : Nat) (hk : l.length + 1 ≤ k) : spec_l13Ladder.f k l = some (ladOk l) := by
  unfold spec_l13Ladder.f ladOk
  by_cases h1 : (l.length : Int) > 20
  · rw [if_pos h1, decide_eq_false (by omega)]; rfl
  · rw [if_neg h1, decide_eq_true (by omega)]
    simp only [Bool.true_and]
    refine loop_scanM0 (fun k i => spec_l13Ladder.l0 k l i) l.length 0 1 (rungStop l) true ?_ ?_ k (by omega)
    · intro k i _ hi; exact ladSpec_step k l i hi hl
    · intro k _
      simp only [spec_l13Ladder.l0]
      rw [if_neg (by omega)]
theorem ladImpl_step (k : Nat) (l : List S70) (i : Nat) (hi : i < l.length) (hl : l.length ≤ 9223372036854775807) :
    impl_ladderOk.l0 (k + 1) l l (l.length : Int) (i : Int) = goOn (rungStop l i) (impl_ladderOk.l0 k l l (l.length : Int) ((i + 1 : Nat) : Int)) := by
  simp only [impl_ladderOk.l0]
  rw [if_pos (by omega), if_pos (by omega), if_pos (by omega), w64i hi hl]
  simp only [quantity_eq, rateOk_eq, Option.bind_some]
  rw [prev_ifs i (l.length : Int) (by omega) (by omega) (fun j => (rd_T70 l j).f0 ≥ (rd_T70 l i).f0)]
  unfold rungStop rungB
  rw [goOn_if]
  generalize decide (0 ≤ (rd_T70 l i).f0 ∧ (rd_T70 l i).f0 ≤ 1000000) = c0
  generalize decide (0 ≤ (rd_T70 l i).f1 ∧ (rd_T70 l i).f1 ≤ 100000) = c1
  generalize (decide (i = 0) || decide (¬ (rd_T70 l ((i - 1 : Nat) : Int)).f0 ≥ (rd_T70 l i).f0)) = c2
  cases c0 <;> cases c1 <;> cases c2 <;> simp
theorem ladImpl_eq (l : List S70) (hl : l.length ≤ 9223372036854775807) (k : Nat) (hk : l.length + 1 ≤ k) : impl_ladderOk.f k l = some (ladOk l) := by
  unfold impl_ladderOk.f ladOk
  by_cases h1 : (l.length : Int) > 20
  · rw [if_pos h1, decide_eq_false (by omega)]; rfl
  · rw [if_neg h1, decide_eq_true (by omega)]
    simp only [Bool.true_and]
    refine loop_scanM0 (fun k i => impl_ladderOk.l0 k l l (l.length : Int) i) l.length 0 1 (rungStop l) true ?_ ?_ k (by omega)
    · intro k i _ hi; exact ladImpl_step k l i hi hl
    · intro k _
      simp only [impl_ladderOk.l0]
      rw [if_neg (by omega)]
def rateNext (l : List S70) (q : Int) (i : Nat) (s : Int) : Int ⊕ Int := if (rd_T70 l i).f0 ≤ q then .inr (rd_T70 l i).f1 else .inr s
def ladRate (l : List S70) (q : Int) : Int := if (ladOk l && decide (0 ≤ q ∧ q ≤ 1000000)) = true then foldS (rateNext l q) id l.length 0 0 else 0
theorem rateSpec_eq (l : List S70) (q : Int) (hl : l.length ≤ 1048576) (k : Nat) (hk : 3 * l.length + 10 ≤ k) : spec_LadderRate.f k l q = some (ladRate l q) := by
  unfold spec_LadderRate.f ladRate
  have j1 : ∀ k (i : Nat) s b, i < l.length → spec_LadderRate.j1 (k + 1) l q s (i : Int) b = if b = true then spec_LadderRate.l0 k l q (if (rd_T70 l i).f0 ≤ q then (rd_T70 l i).f1 else s) ((i + 1 : Nat) : Int) else some s := by
    intro k i s b hi
    simp only [spec_LadderRate.j1]
    cases b with
    | false => simp
    | true =>
      rw [if_pos rfl, if_pos rfl, if_pos (by omega), if_pos (by omega), w64i hi (by omega)]
      split <;> rfl
  by_cases h : (ladOk l && decide (0 ≤ q ∧ q ≤ 1000000)) = true
  · rw [if_pos h]
    rw [Bool.and_eq_true] at h
    refine loop_fold0 (fun k i s => spec_LadderRate.l0 k l q s i) l.length (l.length + 1) 2 (rateNext l q) id (fun _ _ => True) ?_ ?_ ?_ k 0 (by omega) trivial
    · intro k i s hk hi _
      simp only [spec_LadderRate.l0]
      rw [if_pos (by omega), ladSpec_eq l (by omega) _ (by omega)]
      simp only [Option.bind_some, l12Qty_eq]
      rw [if_pos h.1, j1 k i s _ hi, if_pos h.2]
      unfold rateNext
      split <;> rfl
    · intros; trivial
    · intro k s hk _
      simp only [spec_LadderRate.l0]
      rw [if_neg (by omega)]
      rfl
  · rw [if_neg h]
    obtain ⟨k, rfl⟩ : ∃ m, k = m + 2 := ⟨k - 2, by omega⟩
    simp only [spec_LadderRate.l0]
    by_cases h0 : (0 : Int) < (l.length : Int)
    · have e1 : ∀ b, b = false → spec_LadderRate.j1 (k + 1) l q 0 0 b = some 0 := by
        intro b hb
        have := j1 k 0 0 b (by omega)
        rw [hb, if_neg (by simp)] at this
        rw [hb]; exact this
      rw [if_pos h0, ladSpec_eq l (by omega) _ (by omega)]
      simp only [Option.bind_some, l12Qty_eq]
      cases hb : ladOk l
      · rw [if_neg (by simp)]; exact e1 _ rfl
      · rw [if_pos rfl]
        rw [hb, Bool.true_and, Bool.not_eq_true] at h
        exact e1 _ h
    · rw [if_neg h0]
      simp only [spec_LadderRate.j1]
      rw [if_neg (by simp)]
theorem rateImpl_eq (l : List S70) (q : Int) (hl : l.length ≤ 1048576) (k : Nat) (hk : 3 * l.length + 10 ≤ k) : impl_LadderRate.f k l q = some (ladRate l q) := by
  obtain ⟨k, rfl⟩ : ∃ m, k = m + 1 := ⟨k - 1, by omega⟩
  unfold impl_LadderRate.f ladRate
  rw [ladImpl_eq l (by omega) _ (by omega)]
  simp only [Option.bind_some, quantity_eq, impl_LadderRate.j0]
  cases ladOk l
  · simp
  · simp only [if_true, Bool.true_and]
    by_cases h : (decide (0 ≤ q ∧ q ≤ 1000000)) = true
    · rw [h, if_neg (by simp), if_pos rfl]
      refine loop_fold0 (fun k i s => impl_LadderRate.l0 k q s l (l.length : Int) i) l.length 0 1 (rateNext l q) id (fun _ _ => True) ?_ ?_ ?_ k 0 (by omega) trivial
      · intro k i s hk hi _
        simp only [impl_LadderRate.l0]
        rw [if_pos (by omega), if_pos (by omega), if_pos (by omega), w64i hi (by omega)]
        unfold rateNext
        split <;> rfl
      · intros; trivial
      · intro k s hk _
        simp only [impl_LadderRate.l0]
        rw [if_neg (by omega)]
        rfl
    · rw [Bool.not_eq_true] at h
      rw [h]
      simp
theorem FnExactLadderRate : laws_FnExactLadderRate.Pure := by
  intro l q ⟨hl, _⟩ _
  rw [maxLen_eq] at hl
  refine ⟨3 * l.length + 10, ?_⟩
  unfold laws_FnExactLadderRate.f
  obtain ⟨r, hr, hc⟩ := szRungS_spec l hl (3 * l.length + 10) (by omega)
  rw [hr]
  simp only [Option.bind_some]
  rcases hc with hc | ⟨hc0, hc⟩
  · rw [if_pos hc]
  · have hm : (l.map cvRung).length = l.length := by simp
    rw [if_neg (by omega), toRungS_eq l hc _ (by omega)]
    simp only [Option.bind_some]
    rw [rateSpec_eq _ _ (by omega) _ (by omega), rateImpl_eq _ _ (by omega) _ (by omega)]
    simp only [Option.bind_some]
    rw [if_pos trivial, eqRungS_refl _ (by omega) _ (by omega)]
    rfl

end Go.Proofs.Ytegkhdobjcdfnab.Pure
