/- The program's LotCost answers as the reference's at every way of ordering and all lists, which read as before. Conditions: none. -/
import Derived.Test.YtegkhdobjcdfnacPFnExactLotCostx0
import Derived.Test.YtegkhdobjcdfnacPFnExactLotCostx1
import Derived.Test.YtegkhdobjcdfnacPFnExactLotCostx2
import Derived.Test.YtegkhdobjcdfnacPFnExactLotCostx3
import Derived.Test.YtegkhdobjcdfnacPureAid
import Derived.Test.YtegkhdobjcdfnacWMore
namespace Go.Proofs.Ytegkhdobjcdfnac.Pure
open Go Go.RowKit Go.Proofs.Ytegkhdobjcdfnac.PFnExactLotCost Go.Proofs.YtegkhdobjcdfnacW.PrintWords Go.Proofs.YtegkhdobjcdfnacW.PrintLast Go.Proofs.Ytegkhdobjcdfnac.Aid
set_option linter.unusedVariables false
set_option linter.unusedSimpArgs false
set_option maxRecDepth 100000
/-- The one pure statement of the law. -/
def laws_FnExactLotCost.Pure : Prop := ∀ (a0_0 : Int) (a0_1 : Int) (a0_2 : Int) (a0_3 : Int) (l1 : List Int) (l2 : List Int), (Lit.int .i64 a0_0).wf = true → (Lit.int .i64 a0_1).wf = true → (Lit.int .i64 a0_2).wf = true → (Lit.int .i64 a0_3).wf = true → (l1.length ≤ maxLen ∧ ∀ x ∈ l1, (Lit.int .i64 x).wf = true) → (l2.length ≤ maxLen ∧ ∀ x ∈ l2, (Lit.int .i64 x).wf = true) → ∃ k, laws_FnExactLotCost.f k a0_0 a0_1 a0_2 a0_3 l1 l2 = some true
theorem toIntS_eq (l : List Int) (hl : l.length ≤ 35184372088832) (k : Nat) (hk : l.length < k) : laws_toIntS.f k l = some l := by
  unfold laws_toIntS.f
  rw [if_pos (by omega), if_pos (by omega)]
  have h := loop_fill0 (fun k acc i => laws_toIntS.l0 k l acc i) l id 0 ?_ ?_ k (by omega) (List.replicate ((l.length : Int) : Int).toNat 0) (by simp)
  · rw [List.map_id] at h; exact h
  · intro k acc i x _ hi ha hx
    simp only [laws_toIntS.l0]
    rw [if_pos (by omega), if_pos (by omega), if_pos (by omega), w64i hi (by omega)]
    unfold rd
    rw [getD_of hx, Int.toNat_natCast]
    rfl
  · intro k acc _
    simp only [laws_toIntS.l0]
    rw [if_neg (by omega)]

theorem eqIntS_refl (l : List Int) (hl : l.length ≤ 9223372036854775807) (k : Nat) (hk : l.length < k) : laws_eqIntS.f k l l = some true := by
  unfold laws_eqIntS.f
  rw [if_pos rfl, loop_scan0 (fun k i => laws_eqIntS.l0 k l l i) l.length 0 (fun _ => none) true ?_ ?_ ?_ k (by omega), scan_false _ _ (fun _ _ _ => rfl)]
  · intro k i r _ hi h
    cases h
  · intro k i _ hi h
    simp only [laws_eqIntS.l0]
    rw [if_pos (by omega), if_pos (by omega), if_pos (by omega), if_pos trivial, w64i hi (by omega)]
  · intro k _
    simp only [laws_eqIntS.l0]
    rw [if_neg (by omega)]

theorem two_dec (a b : Prop) [Decidable a] [Decidable b] : (if a then some (decide b) else some false) = some (decide (a ∧ b)) := by
  by_cases h : a
  · rw [if_pos h]; congr 1; rw [decide_eq_decide]; exact ⟨fun hb => ⟨h, hb⟩, fun hb => hb.2⟩
  · rw [if_neg h]; congr 1; symm; rw [decide_eq_false_iff_not]; exact fun hb => h hb.1

theorem l1In_eq (a b c : Int) : spec_l1In.f a b c = some (decide (b ≤ a ∧ a ≤ c)) := by unfold spec_l1In.f; exact two_dec (a ≥ b) (a ≤ c)

theorem l12Qty_eq (a : Int) : spec_l12Qty.f a = some (decide (0 ≤ a ∧ a ≤ 1000000)) := by unfold spec_l12Qty.f; rw [l1In_eq]; rfl

theorem l1Factor_eq (a : Int) : spec_l1Factor.f a = some (decide (0 ≤ a ∧ a ≤ 10000000)) := by unfold spec_l1Factor.f; rw [l1In_eq]; rfl

theorem between_eq (a b c : Int) : impl_between.f a b c = some (decide (b ≤ a ∧ a ≤ c)) := by unfold impl_between.f; exact two_dec (a ≥ b) (a ≤ c)

theorem quantity_eq (a : Int) : impl_quantity.f a = some (decide (0 ≤ a ∧ a ≤ 1000000)) := by unfold impl_quantity.f; rw [between_eq]; rfl

def qtyB (x : Int) : Bool := decide (0 ≤ x ∧ x ≤ 1000000)
def qtyStop (l : List Int) (i : Nat) : Option Bool := if qtyB (rd l i) = true then none else some false
/-- A list of quantities, one a bucket. -/
def bucketB (l : List Int) : Bool := decide (1 ≤ l.length ∧ l.length ≤ 40) && scan (qtyStop l) true l.length 0
theorem bucketB_all (l : List Int) (h : bucketB l = true) : (1 ≤ l.length ∧ l.length ≤ 40) ∧ ∀ j, j < l.length → 0 ≤ rd l (j : Nat) ∧ rd l (j : Nat) ≤ 1000000 := by
  unfold bucketB at h
  rw [Bool.and_eq_true, decide_eq_true_eq] at h
  refine ⟨h.1, fun j hj => ?_⟩
  have h2 := (scan_all (p := fun j => qtyB (rd l (j : Nat))) l.length 0).1 h.2 j (by omega) (by omega)
  unfold qtyB at h2
  rw [decide_eq_true_eq] at h2
  exact h2
theorem l18List_eq (l : List Int) (hl : l.length ≤ 9223372036854775807) (k : Nat) (hk : l.length + 1 ≤ k) : spec_l18List.f k l = some (bucketB l) := by
  unfold spec_l18List.f bucketB
  rw [l1In_eq]
  simp only [Option.bind_some, decide_eq_true_eq]
  by_cases h1 : 1 ≤ (l.length : Int) ∧ (l.length : Int) ≤ 40
  · rw [if_pos h1, decide_eq_true (show 1 ≤ l.length ∧ l.length ≤ 40 by omega)]
    simp only [Bool.true_and]
    refine loop_scanM0 (fun k i => spec_l18List.l0 k l i) l.length 0 1 (qtyStop l) true ?_ ?_ k (by omega)
    · intro k i _ hi
      simp only [spec_l18List.l0]
      rw [if_pos (by omega), if_pos (by omega), w64i hi hl, l12Qty_eq]
      simp only [Option.bind_some]
      unfold qtyStop qtyB
      cases decide (0 ≤ rd l i ∧ rd l i ≤ 1000000) <;> rfl
    · intro k _
      simp only [spec_l18List.l0]
      rw [if_neg (by omega)]
  · rw [if_neg h1, decide_eq_false (by omega)]; rfl
theorem listOk_eq (l : List Int) (n : Nat) (hl : l.length ≤ 9223372036854775807) (k : Nat) (hk : l.length + 3 ≤ k) : impl_listOk.f k l (n : Int) = some (decide ((l.length : Int) = (n : Int)) && bucketB l) := by
  obtain ⟨k, rfl⟩ : ∃ m, k = m + 1 := ⟨k - 1, by omega⟩
  unfold impl_listOk.f bucketB
  rw [between_eq]
  by_cases he : (l.length : Int) = (n : Int)
  · have e : ((l.length : Int) != (n : Int)) = false := by rw [he]; simp
    simp only [Option.bind_some, decide_eq_true_eq, impl_listOk.j0, if_true, e]
    rw [decide_eq_true he, Bool.true_and, ← he]
    by_cases h1 : 1 ≤ (l.length : Int) ∧ (l.length : Int) ≤ 40
    · rw [if_pos h1, decide_eq_true (show 1 ≤ l.length ∧ l.length ≤ 40 by omega), if_neg (by simp)]
      simp only [Bool.true_and]
      refine loop_scanM0 (fun k i => impl_listOk.l0 k l (l.length : Int) i) l.length 0 1 (qtyStop l) true ?_ ?_ k (by omega)
      · intro k i _ hi
        simp only [impl_listOk.l0]
        rw [if_pos (by omega), if_pos (by omega), if_pos (by omega), w64i hi hl, quantity_eq]
        simp only [Option.bind_some]
        unfold qtyStop qtyB
        cases decide (0 ≤ rd l i ∧ rd l i ≤ 1000000) <;> rfl
      · intro k _
        simp only [impl_listOk.l0]
        rw [if_neg (by omega)]
    · rw [if_neg h1, decide_eq_false (by omega)]; rfl
  · have e : ((l.length : Int) != (n : Int)) = true := by simpa using he
    simp only [Option.bind_some, decide_eq_true_eq, impl_listOk.j0, if_true, e]
    rw [decide_eq_false he, Bool.false_and]
    split <;> rfl

def psum (l : List Int) : Nat → Int
  | 0 => 0
  | n + 1 => psum l n + rd l n
theorem psum_succ (l : List Int) (n : Nat) : psum l (n + 1) = psum l n + rd l n := rfl
theorem psum_range (l : List Int) (h : ∀ j, j < l.length → 0 ≤ rd l (j : Nat) ∧ rd l (j : Nat) ≤ 1000000) : ∀ n, n ≤ l.length → 0 ≤ psum l n ∧ psum l n ≤ 1000000 * n := by
  intro n
  induction n with
  | zero => intro _; simp [psum]
  | succ n ih =>
    intro hn
    have h1 := ih (by omega)
    have h2 := h n (by omega)
    unfold psum
    omega
theorem l18Sum_eq (l : List Int) (hl : l.length ≤ 40) (h : ∀ j, j < l.length → 0 ≤ rd l (j : Nat) ∧ rd l (j : Nat) ≤ 1000000) (m : Nat) (hm : m ≤ l.length) (k : Nat) (hk : m < k) : spec_l18Sum.f k l 0 (m : Int) = some (psum l m) := by
  unfold spec_l18Sum.f
  have key : ∀ (d i k : Nat), i + d = m → d < k → spec_l18Sum.l0 k l (m : Int) (psum l i) (i : Int) = some (psum l m) := by
    intro d
    induction d with
    | zero =>
      intro i k hi hk
      obtain ⟨k, rfl⟩ : ∃ q, k = q + 1 := ⟨k - 1, by omega⟩
      simp only [spec_l18Sum.l0]
      rw [if_neg (by omega), show i = m by omega]
    | succ d ih =>
      intro i k hi hk
      obtain ⟨k, rfl⟩ : ∃ q, k = q + 1 := ⟨k - 1, by omega⟩
      simp only [spec_l18Sum.l0]
      have h1 := psum_range l h i (by omega)
      have h2 := h i (by omega)
      rw [if_pos (by omega), if_pos (by omega), if_pos (by omega), w64i (show i < m by omega) (by omega), w64 (by omega) (by omega)]
      exact ih (i + 1) k (by omega) (by omega)
  exact key m 0 k (by omega) hk
def lotStep (ms os : List Int) (setup hold : Int) (i : Nat) (c : Int) : (Int × Bool) ⊕ Int :=
  if psum os (i + 1) - psum ms (i + 1) < 0 then .inl (0, false) else .inr (wrap64 ((if rd os i > 0 then wrap64 (c + setup) else c) + wrap64 ((psum os (i + 1) - psum ms (i + 1)) * hold)))
def lotTail (ms os : List Int) (setup hold : Int) : Int × Bool := foldS (lotStep ms os setup hold) (fun c => (c, true)) ms.length 0 0
theorem lotSpec_loop (ms os : List Int) (kd sz setup hold : Int) (he : os.length = ms.length) (hl : ms.length ≤ 40) (hm : ∀ j, j < ms.length → 0 ≤ rd ms (j : Nat) ∧ rd ms (j : Nat) ≤ 1000000) (ho : ∀ j, j < os.length → 0 ≤ rd os (j : Nat) ∧ rd os (j : Nat) ≤ 1000000) (k : Nat) (hk : 1000 ≤ k) :
    spec_LotCost.l0 k ms os 0 0 kd sz setup hold = some (lotTail ms os setup hold) := by
  refine loop_fold0 (fun k i c => spec_LotCost.l0 k ms os c i kd sz setup hold) ms.length 100 2 (lotStep ms os setup hold) (fun c => (c, true)) (fun _ _ => True) ?_ ?_ ?_ k 0 (by omega) trivial
  · intro k i c hk hi _
    have j2 : ∀ c, spec_LotCost.j2 (k + 1) ms os c (i : Int) kd sz setup hold = if psum os (i + 1) - psum ms (i + 1) < 0 then some (0, false) else spec_LotCost.l0 k ms os (wrap64 (c + wrap64 ((psum os (i + 1) - psum ms (i + 1)) * hold))) ((i + 1 : Nat) : Int) kd sz setup hold := by
      intro c
      have r1 := psum_range ms hm (i + 1) (by omega)
      have r2 := psum_range os ho (i + 1) (by omega)
      simp only [spec_LotCost.j2]
      rw [w64i hi (by omega), l18Sum_eq os (by omega) ho (i + 1) (by omega) k (by omega), l18Sum_eq ms (by omega) hm (i + 1) (by omega) k (by omega)]
      simp only [Option.bind_some]
      rw [w64 (x := psum os (i + 1) - psum ms (i + 1)) (by omega) (by omega)]
    simp only [spec_LotCost.l0]
    rw [if_pos (by omega), if_pos (by omega), j2, j2]
    unfold lotStep
    by_cases h1 : rd os i > 0
    · rw [if_pos h1, if_pos h1]; split <;> rfl
    · rw [if_neg h1, if_neg h1]; split <;> rfl
  · intros; trivial
  · intro k c _ _
    simp only [spec_LotCost.l0]
    rw [if_neg (by omega)]
theorem lotImpl_loop (ms os : List Int) (kd sz setup hold : Int) (he : os.length = ms.length) (hl : ms.length ≤ 40) (hm : ∀ j, j < ms.length → 0 ≤ rd ms (j : Nat) ∧ rd ms (j : Nat) ≤ 1000000) (ho : ∀ j, j < os.length → 0 ≤ rd os (j : Nat) ∧ rd os (j : Nat) ≤ 1000000) (k : Nat) (hk : 1000 ≤ k) :
    impl_LotCost.l0 k ms os 0 0 (ms.length : Int) 0 kd sz setup hold = some (lotTail ms os setup hold) := by
  refine loop_fold0 (fun k i c => impl_LotCost.l0 k ms os c (psum os i.toNat - psum ms i.toNat) (ms.length : Int) i kd sz setup hold) ms.length 100 1 (lotStep ms os setup hold) (fun c => (c, true)) (fun _ _ => True) ?_ ?_ ?_ k 0 (by omega) trivial
  · intro k i c hk hi _
    have r1 := psum_range ms hm (i + 1) (by omega)
    have r2 := psum_range os ho (i + 1) (by omega)
    have r3 := psum_range ms hm i (by omega)
    have r4 := psum_range os ho i (by omega)
    have r5 := hm i hi
    have r6 := ho i (by omega)
    have e : wrap64 (psum os i - psum ms i + wrap64 (rd os i - rd ms i)) = psum os (i + 1) - psum ms (i + 1) := by
      rw [w64 (x := rd os i - rd ms i) (by omega) (by omega), w64 (by omega) (by omega), psum_succ, psum_succ]; omega
    simp only [impl_LotCost.l0, Int.toNat_natCast]
    rw [if_pos (by omega), if_pos (by omega), if_pos (by omega), if_pos (by omega), w64i hi (by omega), e, Int.mul_comm hold]
    unfold lotStep
    by_cases h2 : psum os (i + 1) - psum ms (i + 1) < 0
    · rw [if_pos h2, if_pos h2]; rfl
    · rw [if_neg h2, if_neg h2]
      by_cases h1 : rd os i > 0
      · rw [if_pos h1, if_pos h1]; rfl
      · rw [if_neg h1, if_neg h1]; rfl
  · intros; trivial
  · intro k c _ _
    simp only [impl_LotCost.l0]
    rw [if_neg (by omega)]
def lotsB (a b c d : Int) : Bool := decide (1 ≤ a ∧ a ≤ 4) && (decide (1 ≤ b ∧ b ≤ 1000000) && (decide (0 ≤ c ∧ c ≤ 10000000) && decide (0 ≤ d ∧ d ≤ 1000)))
theorem l18Lots_eq (a b c d : Int) : spec_l18Lots.f a b c d = some (lotsB a b c d) := by
  unfold spec_l18Lots.f lotsB
  simp only [l1In_eq, l1Factor_eq, Option.bind_some]
  cases decide (1 ≤ a ∧ a ≤ 4) <;> cases decide (1 ≤ b ∧ b ≤ 1000000) <;> cases decide (0 ≤ c ∧ c ≤ 10000000) <;> rfl
theorem lotsOk_eq (a b c d : Int) : impl_lotsOk.f a b c d = some (lotsB a b c d) := by
  unfold impl_lotsOk.f lotsB
  simp only [between_eq, Option.bind_some]
  cases decide (1 ≤ a ∧ a ≤ 4) <;> cases decide (1 ≤ b ∧ b ≤ 1000000) <;> cases decide (0 ≤ c ∧ c ≤ 10000000) <;> rfl
def lotVal (a b c d : Int) (ms os : List Int) : Int × Bool := if (lotsB a b c d && (bucketB ms && (bucketB os && decide (ms.length = os.length)))) = true then lotTail ms os c d else (0, false)
theorem lotSpec_eq (a b c d : Int) (ms os : List Int) (h1 : ms.length ≤ 1048576) (h2 : os.length ≤ 1048576) (k : Nat) (hk : 3000000 ≤ k) : spec_LotCost.f k a b c d ms os = some (lotVal a b c d ms os) := by
  unfold spec_LotCost.f
  rw [l18Lots_eq, l18List_eq ms (by omega) k (by omega), l18List_eq os (by omega) k (by omega)]
  simp only [Option.bind_some]
  obtain ⟨k, rfl⟩ : ∃ m, k = m + 1 := ⟨k - 1, by omega⟩
  have jf : spec_LotCost.j0 (k + 1) ms os true a b c d = some (0, false) := by simp [spec_LotCost.j0]
  unfold lotVal
  cases hq : lotsB a b c d
  · exact jf
  · cases hm : bucketB ms
    · exact jf
    · cases ho : bucketB os
      · exact jf
      · have rm := bucketB_all ms hm
        have ro := bucketB_all os ho
        simp only [if_true, Bool.true_and, spec_LotCost.j0, decide_eq_true_eq, bne_iff_ne, ne_eq]
        by_cases he : ms.length = os.length
        · rw [if_neg (by omega), if_pos he]
          exact lotSpec_loop ms os a b c d he.symm rm.1.2 rm.2 ro.2 k (by omega)
        · rw [if_pos (by omega), if_neg he]
theorem lotImpl_eq (a b c d : Int) (ms os : List Int) (h1 : ms.length ≤ 1048576) (h2 : os.length ≤ 1048576) (k : Nat) (hk : 3000000 ≤ k) : impl_LotCost.f k a b c d ms os = some (lotVal a b c d ms os) := by
  unfold impl_LotCost.f
  rw [lotsOk_eq, listOk_eq ms ms.length (by omega) k (by omega), listOk_eq os ms.length (by omega) k (by omega)]
  simp only [Option.bind_some]
  obtain ⟨k, rfl⟩ : ∃ m, k = m + 1 := ⟨k - 1, by omega⟩
  have jf : impl_LotCost.j0 (k + 1) ms os true a b c d = some (0, false) := by simp [impl_LotCost.j0]
  unfold lotVal
  cases hq : lotsB a b c d
  · exact jf
  · simp only [decide_true, Bool.true_and]
    cases hm : bucketB ms
    · exact jf
    · have rm := bucketB_all ms hm
      simp only [Bool.true_and, if_true]
      by_cases he : ms.length = os.length
      · rw [decide_eq_true (show (os.length : Int) = ms.length by omega), decide_eq_true he, Bool.true_and, Bool.and_true]
        cases ho : bucketB os
        · exact jf
        · have ro := bucketB_all os ho
          simp only [impl_LotCost.j0]
          rw [if_neg (by simp), if_pos trivial]
          exact lotImpl_loop ms os a b c d he.symm rm.1.2 rm.2 ro.2 k (by omega)
      · rw [decide_eq_false (show ¬ (os.length : Int) = ms.length by omega), decide_eq_false he, Bool.false_and, Bool.and_false]
        exact jf
theorem FnExactLotCost : laws_FnExactLotCost.Pure := by
  intro a b c d ms os _ _ _ _ ⟨h1, _⟩ ⟨h2, _⟩
  rw [maxLen_eq] at h1 h2
  refine ⟨4000000, ?_⟩
  unfold laws_FnExactLotCost.f laws_toLots.f
  by_cases hc1 : (ms.length : Int) > 1048576
  · rw [if_pos hc1]
  · rw [if_neg hc1]
    by_cases hc2 : (os.length : Int) > 1048576
    · rw [if_pos hc2]
    · rw [if_neg hc2]
      simp only [Option.bind_some]
      rw [toIntS_eq ms (by omega) _ (by omega), toIntS_eq os (by omega) _ (by omega)]
      simp only [Option.bind_some]
      rw [lotSpec_eq a b c d ms os (by omega) (by omega) _ (by omega), lotImpl_eq a b c d ms os (by omega) (by omega) _ (by omega)]
      simp only [Option.bind_some, if_true]
      show laws_FnExactLotCost.j0 (3999999 + 1) ms os ms os _ = _
      simp only [laws_FnExactLotCost.j0]
      rw [if_neg (by simp), toIntS_eq ms (by omega) _ (by omega), toIntS_eq os (by omega) _ (by omega)]
      simp only [Option.bind_some]
      rw [eqIntS_refl ms (by omega) _ (by omega), eqIntS_refl os (by omega) _ (by omega)]
      rfl

end Go.Proofs.Ytegkhdobjcdfnac.Pure
