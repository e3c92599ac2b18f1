/- The program's PeriodAt answers as the reference's at every list of periods and every day, and the list reads as before. Conditions: none. -/
import Derived.Test.YtjmjhpdoealpaaaPFnExactPeriodAtx0
import Derived.Test.YtjmjhpdoealpaaaPFnExactPeriodAtx1
import Derived.Test.YtjmjhpdoealpaaaPFnExactPeriodAtx2
import Derived.Test.YtjmjhpdoealpaaaPureAid
import Derived.Test.YtjmjhpdoealpaaaWMore
namespace Go.Proofs.Ytjmjhpdoealpaaa.Pure
open Go Go.RowKit Go.Proofs.Ytjmjhpdoealpaaa.PFnExactPeriodAt Go.Proofs.YtjmjhpdoealpaaaW.PrintWords Go.Proofs.YtjmjhpdoealpaaaW.PrintLast Go.Proofs.Ytjmjhpdoealpaaa.Aid
set_option linter.unusedVariables false
set_option linter.unusedSimpArgs false
set_option maxRecDepth 100000
/-- The one pure statement of the law. -/
def laws_FnExactPeriodAt.Pure : Prop := ∀ (l0 : List S39) (a1 : Int), (l0.length ≤ maxLen ∧ ∀ x ∈ l0, ((Lit.int .i64 x.f0).wf = true ∧ (Lit.int .i64 x.f1).wf = true)) → (Lit.int .i64 a1).wf = true → ∃ k, laws_FnExactPeriodAt.f k l0 a1 = some true
def cv (x : S39) : S37 := ⟨x.f0, x.f1⟩
theorem to_eq (l : List S39) (hl : l.length ≤ 17592186044416) (k : Nat) (hk : l.length < k) : laws_toPeriodS.f k l = some (l.map cv) := by
  unfold laws_toPeriodS.f
  rw [if_pos (by omega), if_pos (by omega)]
  refine loop_fill0 (fun k acc i => laws_toPeriodS.l0 k l acc i) l cv 0 ?_ ?_ k (by omega) _ (by simp)
  · intro k acc i x _ hi ha hx
    simp only [laws_toPeriodS.l0]
    rw [if_pos (by omega), if_pos (by omega), w64i hi (by omega)]
    unfold laws_toPeriod.f rd_T39
    rw [getD_of hx]
    simp only [Option.bind_some]
    rw [if_pos (by omega), Int.toNat_natCast]
    rfl
  · intro k acc _
    simp only [laws_toPeriodS.l0]
    rw [if_neg (by omega)]
theorem eq_refl (l : List S37) (hl : l.length ≤ 9223372036854775807) (k : Nat) (hk : l.length < k) : laws_eqPeriodS.f k l l = some true := by
  unfold laws_eqPeriodS.f
  rw [if_pos rfl]
  rw [loop_scan0 (fun k i => laws_eqPeriodS.l0 k l l i) l.length 0 (fun _ => none) true ?_ ?_ ?_ k (by omega), scan_false _ _ (fun _ _ _ => rfl)]
  · intro k i r _ hi h
    cases h
  · intro k i _ hi h
    simp only [laws_eqPeriodS.l0]
    rw [if_pos (by omega), if_pos (by omega), if_pos (by omega), w64i hi (by omega)]
    unfold laws_eqPeriod.f
    rw [if_pos rfl, if_pos rfl]
    simp only [Option.bind_some, if_true]
  · intro k _
    simp only [laws_eqPeriodS.l0]
    rw [if_neg (by omega)]
def stop (l : List S37) (d : Int) (i : Nat) : Option Int := if (rd_T37 l i).f0 ≤ d ∧ d ≤ (rd_T37 l i).f1 then some (i : Int) else none
theorem spec_eq (l : List S37) (d : Int) (k : Nat) (hk : l.length < k) (hl : l.length ≤ 9223372036854775807) : spec_PeriodAt.f k l d = some (if (l.length : Int) > 60 then -1 else scan (stop l d) (-1) l.length 0) := by
  unfold spec_PeriodAt.f
  by_cases h : (l.length : Int) > 60
  · rw [if_pos h, if_pos h]
  · rw [if_neg h, if_neg h]
    refine loop_scan0 (fun k i => spec_PeriodAt.l0 k l d i) l.length 0 (stop l d) (-1) ?_ ?_ ?_ k (by omega)
    all_goals intro k
    · intro i r _ hi hs
      simp only [spec_PeriodAt.l0]
      rw [if_pos (by omega), if_pos (by omega)]
      unfold stop at hs
      split at hs
      · rename_i hc; rw [if_pos hc.1, if_pos hc.2]; exact hs
      · cases hs
    · intro i _ hi hs
      simp only [spec_PeriodAt.l0]
      rw [if_pos (by omega), if_pos (by omega), w64i hi (by omega)]
      unfold stop at hs
      split at hs
      · cases hs
      · rename_i hc
        split
        · rename_i h1; rw [if_neg (fun h2 => hc ⟨h1, h2⟩)]
        · rfl
    · intro _
      simp only [spec_PeriodAt.l0]
      rw [if_neg (by omega)]
theorem impl_eq (l : List S37) (d : Int) (k : Nat) (hk : l.length < k) (hl : l.length ≤ 9223372036854775807) : impl_PeriodAt.f k l d = some (if (l.length : Int) > 60 then -1 else scan (stop l d) (-1) l.length 0) := by
  unfold impl_PeriodAt.f
  by_cases h : (l.length : Int) > 60
  · rw [if_pos h, if_pos h]
  · rw [if_neg h, if_neg h]
    refine loop_scan0 (fun k i => impl_PeriodAt.l0 k d l (l.length : Int) i) l.length 0 (stop l d) (-1) ?_ ?_ ?_ k (by omega)
    all_goals intro k
    · intro i r _ hi hs
      simp only [impl_PeriodAt.l0]
      rw [if_pos (by omega), if_pos (by omega), if_pos (by omega)]
      unfold stop at hs
      split at hs
      · rename_i hc; rw [if_pos hc.1, if_pos hc.2]; exact hs
      · cases hs
    · intro i _ hi hs
      simp only [impl_PeriodAt.l0]
      rw [if_pos (by omega), if_pos (by omega), if_pos (by omega), w64i hi (by omega)]
      unfold stop at hs
      split at hs
      · cases hs
      · rename_i hc
        split
        · rename_i h1; rw [if_neg (fun h2 => hc ⟨h1, h2⟩)]
        · rfl
    · intro _
      simp only [impl_PeriodAt.l0]
      rw [if_neg (by omega)]
theorem FnExactPeriodAt : laws_FnExactPeriodAt.Pure := by
  intro l0 a1 ⟨hl, _⟩ _
  rw [maxLen_eq] at hl
  refine ⟨l0.length + 1, ?_⟩
  unfold laws_FnExactPeriodAt.f laws_szPeriodS.f
  rw [w64 (by omega) (by omega)]
  by_cases h : (1048576 - (l0.length : Int)) < 0
  · rw [if_pos h]; rfl
  · rw [if_neg h]
    simp only [Option.bind_some]
    have hm : (l0.map cv).length = l0.length := by simp
    rw [if_neg h, to_eq l0 (by omega) _ (by omega)]
    simp only [Option.bind_some]
    rw [spec_eq _ _ _ (by omega) (by omega), impl_eq _ _ _ (by omega) (by omega)]
    simp only [Option.bind_some, if_true]
    rw [eq_refl _ (by omega) _ (by omega)]
    simp only [Option.bind_some, if_true]

end Go.Proofs.Ytjmjhpdoealpaaa.Pure
