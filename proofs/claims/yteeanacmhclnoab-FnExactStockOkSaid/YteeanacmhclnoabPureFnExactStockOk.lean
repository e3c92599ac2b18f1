/- The program's StockOk answers as the reference's at every stock, which reads as before. Conditions: none. -/
import Derived.Test.YteeanacmhclnoabPFnExactStockOkx0
import Derived.Test.YteeanacmhclnoabPFnExactStockOkx1
import Derived.Test.YteeanacmhclnoabPFnExactStockOkx2
import Derived.Test.YteeanacmhclnoabPFnExactStockOkx3
import Derived.Test.YteeanacmhclnoabPFnExactStockOkx4
import Derived.Test.YteeanacmhclnoabPFnExactStockOkx5
import Derived.Test.YteeanacmhclnoabPFnExactStockOkx6
import Derived.Test.YteeanacmhclnoabPureAid
import Derived.Test.YteeanacmhclnoabWMore
namespace Go.Proofs.Yteeanacmhclnoab.Pure
open Go Go.RowKit Go.Proofs.Yteeanacmhclnoab.PFnExactStockOk Go.Proofs.YteeanacmhclnoabW.PrintWords Go.Proofs.YteeanacmhclnoabW.PrintLast Go.Proofs.Yteeanacmhclnoab.Aid
set_option linter.unusedVariables false
set_option linter.unusedSimpArgs false
set_option maxRecDepth 100000
set_option maxHeartbeats 4000000
/-- The one pure statement of the law. -/
def laws_FnExactStockOk.Pure : Prop := ∀ (l0 : List S64), (l0.length ≤ maxLen ∧ ∀ x ∈ l0, (x.f0.size ≤ maxLen ∧ x.f1.size ≤ maxLen ∧ x.f2.size ≤ maxLen ∧ (Lit.int .i64 x.f3).wf = true ∧ (Lit.int .i64 x.f4).wf = true ∧ (Lit.int .i64 x.f5).wf = true)) → ∃ k, laws_FnExactStockOk.f k l0 = some true
theorem szCell_spec (x : S64) (a : Int) (h0 : 0 ≤ a) (h1 : a ≤ 1048576) (hx : x.f0.size ≤ maxLen ∧ x.f1.size ≤ maxLen ∧ x.f2.size ≤ maxLen) : ∃ r, laws_szCell.f x.f0 x.f1 x.f2 x.f3 x.f4 x.f5 a = some r ∧ (r < 0 ∨ (0 ≤ r ∧ r ≤ a ∧ ((x.f0.size : Int) ≤ a ∧ (x.f1.size : Int) ≤ a ∧ (x.f2.size : Int) ≤ a))) := by
  rw [maxLen_eq] at hx
  unfold laws_szCell.f
  have e1 : wrap64 (a - (x.f0.size : Int)) = a - (x.f0.size : Int) := w64 (by omega) (by omega)
  rw [e1]
  clear e1
  by_cases c1 : a - (x.f0.size : Int) < 0
  · exact ⟨-1, by rw [if_pos c1], .inl (by omega)⟩
  · rw [if_neg c1]
    have e2 : wrap64 (a - (x.f0.size : Int) - (x.f1.size : Int)) = a - (x.f0.size : Int) - (x.f1.size : Int) := w64 (by omega) (by omega)
    rw [e2]
    clear e2
    by_cases c2 : a - (x.f0.size : Int) - (x.f1.size : Int) < 0
    · exact ⟨-1, by rw [if_pos c2], .inl (by omega)⟩
    · rw [if_neg c2]
      have e3 : wrap64 (a - (x.f0.size : Int) - (x.f1.size : Int) - (x.f2.size : Int)) = a - (x.f0.size : Int) - (x.f1.size : Int) - (x.f2.size : Int) := w64 (by omega) (by omega)
      rw [e3]
      clear e3
      by_cases c3 : a - (x.f0.size : Int) - (x.f1.size : Int) - (x.f2.size : Int) < 0
      · exact ⟨-1, by rw [if_pos c3], .inl (by omega)⟩
      · exact ⟨_, by rw [if_neg c3], .inr (by omega)⟩
def cvCell (x : S64) : S66 := ⟨x.f0,x.f1,x.f2,x.f3,x.f4,x.f5⟩
theorem toCellS_eq (l : List S64) (hl : l.length ≤ 1048576) (k : Nat) (hk : l.length < k) : laws_toCellS.f k l = some (l.map cvCell) := by
  unfold laws_toCellS.f
  rw [if_pos (by omega), if_pos (by omega)]
  refine loop_fill0 (fun k acc i => laws_toCellS.l0 k l acc i) l cvCell 0 ?_ ?_ k (by omega) _ (by simp)
  · intro k acc i x _ hi ha hx
    simp only [laws_toCellS.l0]
    rw [if_pos (by omega), if_pos (by omega), w64i hi (by omega)]
    unfold laws_toCell.f rd_T64
    rw [getD_of hx]
    simp only [Option.bind_some]
    rw [if_pos (by omega), Int.toNat_natCast]
    rfl
  · intro k acc _
    simp only [laws_toCellS.l0]
    rw [if_neg (by omega)]

theorem eqCellS_refl (l : List S66) (hl : l.length ≤ 9223372036854775807) (k : Nat) (hk : l.length < k) : laws_eqCellS.f k l l = some true := by
  unfold laws_eqCellS.f
  rw [if_pos rfl]
  rw [loop_scan0 (fun k i => laws_eqCellS.l0 k l l i) l.length 0 (fun _ => none) true ?_ ?_ ?_ k (by omega), scan_false _ _ (fun _ _ _ => rfl)]
  · intro k i r _ hi h
    cases h
  · intro k i _ hi h
    simp only [laws_eqCellS.l0]
    rw [if_pos (by omega), if_pos (by omega), if_pos (by omega), w64i hi (by omega)]
    simp only [laws_eqCell.f, Option.bind_some, if_true]
  · intro k _
    simp only [laws_eqCellS.l0]
    rw [if_neg (by omega)]

theorem szCellS_loop (l : List S64) (hl : l.length ≤ 9223372036854775807) (hx : ∀ x ∈ l, x.f0.size ≤ maxLen ∧ x.f1.size ≤ maxLen ∧ x.f2.size ≤ maxLen) : ∀ (d i k : Nat) (a : Int), i + d = l.length → d < k → 0 ≤ a → a ≤ 1048576 → (∀ j x, j < i → l[j]? = some x → x.f0.size ≤ 1048576 ∧ x.f1.size ≤ 1048576 ∧ x.f2.size ≤ 1048576) →
    ∃ r, laws_szCellS.l0 k l a (i : Int) = some r ∧ (r < 0 ∨ (0 ≤ r ∧ ∀ j x, j < l.length → l[j]? = some x → x.f0.size ≤ 1048576 ∧ x.f1.size ≤ 1048576 ∧ x.f2.size ≤ 1048576)) := by
  intro d
  induction d with
  | zero =>
    intro i k a hi hk h0 h1 hs
    obtain ⟨k, rfl⟩ : ∃ m, k = m + 1 := ⟨k - 1, by omega⟩
    simp only [laws_szCellS.l0]
    rw [if_neg (by omega)]
    exact ⟨a, rfl, .inr ⟨h0, fun j x hj => hs j x (by omega)⟩⟩
  | succ d ih =>
    intro i k a hi hk h0 h1 hs
    obtain ⟨k, rfl⟩ : ∃ m, k = m + 1 := ⟨k - 1, by omega⟩
    simp only [laws_szCellS.l0]
    have hli : i < l.length := by omega
    have hxi : l[i]? = some (l[i]'hli) := List.getElem?_eq_getElem hli
    rw [if_pos (by omega), if_pos (by omega), w64i hli hl]
    unfold rd_T64
    rw [getD_of hxi]
    obtain ⟨r, hr, hc⟩ := szCell_spec (l[i]'hli) a h0 h1 (hx _ (List.getElem_mem hli))
    rw [hr]
    simp only [Option.bind_some]
    rcases hc with hc | ⟨hc0, hc1, hc2⟩
    · rw [if_pos hc]; exact ⟨_, rfl, .inl (by omega)⟩
    · rw [if_neg (by omega)]
      refine ih (i + 1) k r (by omega) (by omega) hc0 (by omega) (fun j x hj hjx => ?_)
      rcases Nat.lt_succ_iff_lt_or_eq.1 hj with h | rfl
      · exact hs j x h hjx
      · rw [hxi] at hjx
        obtain rfl := Option.some.inj hjx
        omega
theorem szCellS_spec (l : List S64) (hl : l.length ≤ 9223372036854775807) (hx : ∀ x ∈ l, x.f0.size ≤ maxLen ∧ x.f1.size ≤ maxLen ∧ x.f2.size ≤ maxLen) (k : Nat) (hk : l.length < k) :
    ∃ r, laws_szCellS.f k l 1048576 = some r ∧ (r < 0 ∨ (0 ≤ r ∧ l.length ≤ 1048576 ∧ ∀ x ∈ l, x.f0.size ≤ 1048576 ∧ x.f1.size ≤ 1048576 ∧ x.f2.size ≤ 1048576)) := by
  unfold laws_szCellS.f
  rw [w64 (by omega) (by omega)]
  by_cases h : (1048576 - (l.length : Int)) < 0
  · exact ⟨_, if_pos h, .inl (by omega)⟩
  · rw [if_neg h]
    obtain ⟨r, hr, hc⟩ := szCellS_loop l hl hx l.length 0 k (1048576 - (l.length : Int)) (by omega) hk (by omega) (by omega) (fun j x hj => by omega)
    refine ⟨r, hr, ?_⟩
    rcases hc with hc | ⟨hc0, hc1⟩
    · exact .inl hc
    · refine .inr ⟨hc0, by omega, fun x hxm => ?_⟩
      obtain ⟨j, hj, rfl⟩ := List.getElem_of_mem hxm
      exact hc1 j _ hj (List.getElem?_eq_getElem hj)

def nameB (b : Int) : Bool := decide ((b ≥ 97 ∧ b ≤ 122) ∨ (b ≥ 65 ∧ b ≤ 90) ∨ (b ≥ 48 ∧ b ≤ 57) ∨ b = 45 ∨ b = 95 ∨ b = 46)
theorem nameByte_eq (b : Int) : impl_nameByte.f b = some (nameB b) := by
  by_cases hb : nameB b = true
  · have h := hb
    unfold nameB at h
    rw [decide_eq_true_eq] at h
    rw [hb]
    unfold impl_nameByte.f
    repeat' split
    all_goals first | rfl | (exfalso; omega) | (congr 1; rw [beq_iff_eq]; omega)
  · have h := hb
    unfold nameB at h
    rw [decide_eq_true_eq] at h
    rw [Bool.not_eq_true] at hb
    rw [hb]
    unfold impl_nameByte.f
    repeat' split
    all_goals first | rfl | (exfalso; omega) | (congr 1; rw [beq_eq_false_iff_ne]; omega)
def nameStop (s : ByteArray) (i : Nat) : Option Bool := if nameB (bt s i) = true then none else some false
theorem nameSpec_step (k : Nat) (s : ByteArray) (i : Nat) (hi : i < s.size) (hs : s.size ≤ 9223372036854775807) :
    spec_NameOk.l0 (k + 1) s (i : Int) = if nameB (bt s i) = true then spec_NameOk.l0 k s ((i + 1 : Nat) : Int) else some false := by
  simp only [spec_NameOk.l0]
  rw [if_pos (by omega), if_pos (by omega), w64i hi hs]
  generalize bt s (i : Int) = b
  generalize spec_NameOk.l0 k s ((i + 1 : Nat) : Int) = X
  by_cases hb : nameB b = true
  · rw [if_pos hb]
    unfold nameB at hb
    rw [decide_eq_true_eq] at hb
    repeat' split
    all_goals first | rfl | (exfalso; omega)
  · rw [if_neg hb]
    unfold nameB at hb
    rw [decide_eq_true_eq] at hb
    repeat' split
    all_goals first | rfl | (exfalso; omega)
theorem nameSpec_end (k : Nat) (s : ByteArray) : spec_NameOk.l0 (k + 1) s (s.size : Int) = some (decide (1 ≤ s.size ∧ s.size ≤ 20)) := by
  simp only [spec_NameOk.l0]
  rw [if_neg (by omega)]
  unfold spec_l1In.f
  by_cases h : (s.size : Int) ≥ 1
  · rw [if_pos h]; simp only [Option.bind_some]; congr 1; rw [decide_eq_decide]; omega
  · rw [if_neg h]; simp only [Option.bind_some]; congr 1; symm; rw [decide_eq_false_iff_not]; omega
theorem nameSpec_eq (s : ByteArray) (hs : s.size ≤ 9223372036854775807) (k : Nat) (hk : s.size < k) : spec_NameOk.f k s = some (scan (nameStop s) (decide (1 ≤ s.size ∧ s.size ≤ 20)) s.size 0) := by
  unfold spec_NameOk.f
  refine loop_scan0 (fun k i => spec_NameOk.l0 k s i) s.size 0 (nameStop s) _ ?_ ?_ ?_ k (by omega)
  · intro k i r _ hi h
    rw [nameSpec_step k s i hi hs]
    unfold nameStop at h
    split at h
    · cases h
    · rename_i hb; rw [if_neg hb]; exact h
  · intro k i _ hi h
    rw [nameSpec_step k s i hi hs]
    unfold nameStop at h
    split at h
    · rename_i hb; rw [if_pos hb]
    · cases h
  · intro k _; exact nameSpec_end k s
theorem nameImpl_step (k : Nat) (s : ByteArray) (i : Nat) (hi : i < s.size) (hs : s.size ≤ 9223372036854775807) :
    impl_NameOk.l0 (k + 1) s (i : Int) = if nameB (bt s i) = true then impl_NameOk.l0 k s ((i + 1 : Nat) : Int) else some false := by
  simp only [impl_NameOk.l0]
  rw [if_pos (by omega), if_pos (by omega), w64i hi hs, nameByte_eq]
  rfl
theorem nameImpl_loop (s : ByteArray) (hs : s.size ≤ 9223372036854775807) (k : Nat) (hk : s.size < k) : impl_NameOk.l0 k s 0 = some (scan (nameStop s) true s.size 0) := by
  refine loop_scan0 (fun k i => impl_NameOk.l0 k s i) s.size 0 (nameStop s) _ ?_ ?_ ?_ k (by omega)
  · intro k i r _ hi h
    rw [nameImpl_step k s i hi hs]
    unfold nameStop at h
    split at h
    · cases h
    · rename_i hb; rw [if_neg hb]; exact h
  · intro k i _ hi h
    rw [nameImpl_step k s i hi hs]
    unfold nameStop at h
    split at h
    · rename_i hb; rw [if_pos hb]
    · cases h
  · intro k _
    simp only [impl_NameOk.l0]
    rw [if_neg (by omega)]
/-- What a name is. -/
def nameOk (s : ByteArray) : Bool := decide (1 ≤ s.size ∧ s.size ≤ 20) && scan (nameStop s) true s.size 0
theorem nameSpec (s : ByteArray) (hs : s.size ≤ 9223372036854775807) (k : Nat) (hk : s.size < k) : spec_NameOk.f k s = some (nameOk s) := by
  rw [nameSpec_eq s hs k hk]
  congr 1
  unfold nameOk
  by_cases h : 1 ≤ s.size ∧ s.size ≤ 20
  · rw [decide_eq_true h, Bool.true_and]
  · rw [decide_eq_false h, Bool.false_and]
    rcases scan_cases (nameStop s) false s.size 0 with ⟨j, r, _, _, h3, _, h5⟩ | ⟨_, h2⟩
    · rw [h5]
      unfold nameStop at h3
      split at h3
      · cases h3
      · exact (Option.some.inj h3).symm
    · exact h2
theorem nameImpl (s : ByteArray) (hs : s.size ≤ 9223372036854775807) (k : Nat) (hk : s.size + 1 < k) : impl_NameOk.f k s = some (nameOk s) := by
  obtain ⟨k, rfl⟩ : ∃ m, k = m + 1 := ⟨k - 1, by omega⟩
  unfold impl_NameOk.f nameOk
  by_cases h1 : (s.size : Int) < 1
  · rw [if_pos h1, decide_eq_false (by omega), Bool.false_and]
    rfl
  · rw [if_neg h1]
    simp only [impl_NameOk.j0]
    by_cases h2 : (s.size : Int) > 20
    · rw [if_pos (decide_eq_true h2), decide_eq_false (by omega), Bool.false_and]
    · rw [if_neg (by simpa using h2), nameImpl_loop s hs k (by omega), decide_eq_true (by omega), Bool.true_and]

theorem two_dec (a b : Prop) [Decidable a] [Decidable b] : (if a then some (decide b) else some false) = some (decide (a ∧ b)) := by
  by_cases h : a
  · rw [if_pos h]; congr 1; rw [decide_eq_decide]; exact ⟨fun hb => ⟨h, hb⟩, fun hb => hb.2⟩
  · rw [if_neg h]; congr 1; symm; rw [decide_eq_false_iff_not]; exact fun hb => h hb.1

theorem l1In_eq (a b c : Int) : spec_l1In.f a b c = some (decide (b ≤ a ∧ a ≤ c)) := by unfold spec_l1In.f; exact two_dec (a ≥ b) (a ≤ c)

theorem between_eq (a b c : Int) : impl_between.f a b c = some (decide (b ≤ a ∧ a ≤ c)) := by unfold impl_between.f; exact two_dec (a ≥ b) (a ≤ c)

theorem l2Day_eq (a : Int) : spec_l2Day.f a = some (decide (0 ≤ a ∧ a ≤ 40000)) := by unfold spec_l2Day.f; rw [l1In_eq]; rfl

theorem isDay_eq (a : Int) : impl_isDay.f a = some (decide (0 ≤ a ∧ a ≤ 40000)) := by unfold impl_isDay.f; rw [between_eq]; rfl

theorem l12Qty_eq (a : Int) : spec_l12Qty.f a = some (decide (0 ≤ a ∧ a ≤ 1000000)) := by unfold spec_l12Qty.f; rw [l1In_eq]; rfl

theorem quantity_eq (a : Int) : impl_quantity.f a = some (decide (0 ≤ a ∧ a ≤ 1000000)) := by unfold impl_quantity.f; rw [between_eq]; rfl

theorem toList_iff (a b : ByteArray) : a.toList = b.toList ↔ a = b := by
  constructor
  · intro h
    have ha : a.toList = a.data.toList := ByteArray.toList_mk a.data.toList
    have hb : b.toList = b.data.toList := ByteArray.toList_mk b.data.toList
    rw [ha, hb] at h
    cases a; cases b
    congr 1
    exact Array.toList_inj.mp h
  · intro h; rw [h]

theorem rowmem (l : List S66) (i : Nat) (hi : i < l.length) : rd_T66 l (i : Int) ∈ l := by
  unfold rd_T66
  rw [getD_of (List.getElem?_eq_getElem hi)]
  exact List.getElem_mem hi
def cellB (x : S66) : Bool := nameOk x.f0 && (nameOk x.f1 && ((decide (x.f2.toList = ([] : List UInt8)) || nameOk x.f2) && (decide (0 ≤ x.f3 ∧ x.f3 ≤ 40000) && (decide (0 ≤ x.f4 ∧ x.f4 ≤ 1000000) && decide (0 ≤ x.f5 ∧ x.f5 ≤ x.f4)))))
theorem cell_spec (x : S66) (h0 : x.f0.size ≤ 1048576) (h1 : x.f1.size ≤ 1048576) (h2 : x.f2.size ≤ 1048576) (k : Nat) (hk : 1048600 ≤ k) : spec_l15Cell.f k x.f0 x.f1 x.f2 x.f3 x.f4 x.f5 = some (cellB x) := by
  unfold spec_l15Cell.f cellB
  rw [nameSpec _ (by omega) _ (by omega), nameSpec _ (by omega) _ (by omega), nameSpec _ (by omega) _ (by omega)]
  simp only [l2Day_eq, l12Qty_eq, l1In_eq, Option.bind_some]
  by_cases hz : x.f2.toList = ([] : List UInt8)
  · rw [if_pos hz, decide_eq_true hz]
    cases nameOk x.f0 <;> cases nameOk x.f1 <;> cases decide (0 ≤ x.f3 ∧ x.f3 ≤ 40000) <;> cases decide (0 ≤ x.f4 ∧ x.f4 ≤ 1000000) <;> rfl
  · rw [if_neg hz, decide_eq_false hz]
    cases nameOk x.f0 <;> cases nameOk x.f1 <;> cases nameOk x.f2 <;> cases decide (0 ≤ x.f3 ∧ x.f3 ≤ 40000) <;> cases decide (0 ≤ x.f4 ∧ x.f4 ≤ 1000000) <;> rfl
theorem cell_impl (x : S66) (h0 : x.f0.size ≤ 1048576) (h1 : x.f1.size ≤ 1048576) (h2 : x.f2.size ≤ 1048576) (k : Nat) (hk : 1048600 ≤ k) : impl_cellOk.f k x.f0 x.f1 x.f2 x.f3 x.f4 x.f5 = some (cellB x) := by
  unfold impl_cellOk.f cellB
  rw [nameImpl _ (by omega) _ (by omega), nameImpl _ (by omega) _ (by omega), nameImpl _ (by omega) _ (by omega)]
  simp only [isDay_eq, quantity_eq, between_eq, Option.bind_some]
  by_cases hz : x.f2.toList = ([] : List UInt8)
  · rw [if_pos hz, decide_eq_true hz]
    cases nameOk x.f0 <;> cases nameOk x.f1 <;> cases decide (0 ≤ x.f3 ∧ x.f3 ≤ 40000) <;> cases decide (0 ≤ x.f4 ∧ x.f4 ≤ 1000000) <;> rfl
  · rw [if_neg hz, decide_eq_false hz]
    cases nameOk x.f0 <;> cases nameOk x.f1 <;> cases nameOk x.f2 <;> cases decide (0 ≤ x.f3 ∧ x.f3 ≤ 40000) <;> cases decide (0 ≤ x.f4 ∧ x.f4 ≤ 1000000) <;> rfl
def same (x y : S66) : Bool := decide (x.f0 = y.f0 ∧ x.f1 = y.f1 ∧ x.f2 = y.f2)
def twice (l : List S66) (i : Nat) : Bool := anyIn (fun j => same (rd_T66 l (j : Int)) (rd_T66 l (i : Int))) i 0
theorem seen_eq (l : List S66) (i : Nat) (hi : i < l.length) (hl : l.length ≤ 1000) (hz : (rd_T66 l (i : Int)).f0.size ≤ 1048576 ∧ (rd_T66 l (i : Int)).f1.size ≤ 1048576 ∧ (rd_T66 l (i : Int)).f2.size ≤ 1048576) : impl_StockOk_seen.f l (i : Int) (rd_T66 l (i : Int)).f0 (rd_T66 l (i : Int)).f1 (rd_T66 l (i : Int)).f2 = some (twice l i) := by
  unfold impl_StockOk_seen.f
  rw [if_pos ⟨by rw [maxLen_eq]; omega, by omega, by omega, by omega⟩, Int.toNat_natCast]
  congr 1
  rw [Bool.eq_iff_iff, List.any_eq_true]
  unfold twice same
  rw [anyIn_iff]
  constructor
  · rintro ⟨a, ha, he⟩
    obtain ⟨j, hj, rfl⟩ := List.getElem_of_mem ha
    rw [List.length_take] at hj
    refine ⟨j, by omega, by omega, ?_⟩
    rw [List.getElem_take] at he
    unfold rd_T66 at he ⊢
    rw [getD_of (List.getElem?_eq_getElem (show j < l.length by omega))]
    exact he
  · rintro ⟨j, _, hj, he⟩
    refine ⟨_, List.mem_take_iff_getElem.2 ⟨j, by omega, rfl⟩, ?_⟩
    unfold rd_T66 at he ⊢
    rw [getD_of (List.getElem?_eq_getElem (show j < l.length by omega))] at he
    exact he
def findS (l : List S66) (y : S66) (j : Nat) : Option Int := if same (rd_T66 l (j : Int)) y = true then some (j : Int) else none
theorem find_eq (l : List S66) (y : S66) (hl : l.length ≤ 1000) (k : Nat) (hk : 2000 ≤ k) : spec_l15Find.f k l y.f0 y.f1 y.f2 y.f3 y.f4 y.f5 = some (scan (findS l y) (-1) l.length 0) := by
  unfold spec_l15Find.f
  refine loop_scanM0 (fun k i => spec_l15Find.l0 k l i y.f0 y.f1 y.f2 y.f3 y.f4 y.f5) l.length 0 1 (findS l y) (-1) ?_ ?_ k (by omega)
  · intro k i hk hi
    show spec_l15Find.l0 (k + 1) l (i : Int) y.f0 y.f1 y.f2 y.f3 y.f4 y.f5 = goOn (findS l y i) (spec_l15Find.l0 k l ((i + 1 : Nat) : Int) y.f0 y.f1 y.f2 y.f3 y.f4 y.f5)
    rw [spec_l15Find.l0, if_pos (by omega), if_pos (by omega), w64i hi (by omega)]
    unfold findS same
    by_cases h0 : (rd_T66 l (i : Int)).f0 = y.f0
    · rw [if_pos ((toList_iff _ _).2 h0)]
      by_cases h1 : (rd_T66 l (i : Int)).f1 = y.f1
      · rw [if_pos ((toList_iff _ _).2 h1)]
        by_cases h2 : (rd_T66 l (i : Int)).f2 = y.f2
        · rw [if_pos ((toList_iff _ _).2 h2), if_pos (decide_eq_true ⟨h0, h1, h2⟩)]; rfl
        · rw [if_neg (fun h => h2 ((toList_iff _ _).1 h)), if_neg (by rw [decide_eq_true_eq]; exact fun h => h2 h.2.2)]; rfl
      · rw [if_neg (fun h => h1 ((toList_iff _ _).1 h)), if_neg (by rw [decide_eq_true_eq]; exact fun h => h1 h.2.1)]; rfl
    · rw [if_neg (fun h => h0 ((toList_iff _ _).1 h)), if_neg (by rw [decide_eq_true_eq]; exact fun h => h0 h.1)]; rfl
  · intro k hk
    show spec_l15Find.l0 (k + 1) l (l.length : Int) y.f0 y.f1 y.f2 y.f3 y.f4 y.f5 = some (-1)
    rw [spec_l15Find.l0, if_neg (by omega)]
theorem find_iff (l : List S66) (i : Nat) (hi : i < l.length) : scan (findS l (rd_T66 l (i : Int))) (-1) l.length 0 = (i : Int) ↔ twice l i = false := by
  have hself : findS l (rd_T66 l (i : Int)) i = some (i : Int) := by
    unfold findS same
    rw [if_pos (decide_eq_true ⟨rfl, rfl, rfl⟩)]
  have htw : twice l i = true ↔ ∃ m, m < i ∧ same (rd_T66 l (m : Int)) (rd_T66 l (i : Int)) = true := by
    unfold twice
    rw [anyIn_iff]
    exact ⟨fun ⟨m, _, h1, h2⟩ => ⟨m, by omega, h2⟩, fun ⟨m, h1, h2⟩ => ⟨m, by omega, by omega, h2⟩⟩
  rcases scan_cases (findS l (rd_T66 l (i : Int))) (-1) l.length 0 with ⟨j, r, h1, h2, h3, h4, h5⟩ | ⟨h1, _⟩
  · rw [h5]
    have hr : r = (j : Int) ∧ same (rd_T66 l (j : Int)) (rd_T66 l (i : Int)) = true := by
      unfold findS at h3
      split at h3
      · rename_i hs
        injection h3 with h3
        exact ⟨h3.symm, hs⟩
      · cases h3
    have hji : j ≤ i := by
      rcases Nat.lt_or_ge i j with h | h
      · have := h4 i (by omega) h
        rw [hself] at this; cases this
      · exact h
    rw [hr.1]
    constructor
    · intro he
      obtain rfl : j = i := by omega
      rw [← Bool.not_eq_true]
      intro ht
      obtain ⟨m, hm, hs⟩ := htw.1 ht
      have := h4 m (by omega) hm
      unfold findS at this
      rw [if_pos hs] at this
      cases this
    · intro hf
      rcases Nat.lt_or_ge j i with h | h
      · rw [htw.2 ⟨j, h, hr.2⟩] at hf; cases hf
      · omega
  · have := h1 i (by omega) (by omega)
    rw [hself] at this; cases this
def stopS (l : List S66) (i : Nat) : Option Bool := if (cellB (rd_T66 l (i : Int)) && !twice l i) = true then none else some false
theorem spec_step (l : List S66) (hl : l.length ≤ 100) (hs : ∀ x ∈ l, x.f0.size ≤ 1048576 ∧ x.f1.size ≤ 1048576 ∧ x.f2.size ≤ 1048576) (k i : Nat) (hk : 1048600 ≤ k) (hi : i < l.length) :
    spec_StockOk.l0 (k + 1) l (i : Int) = goOn (stopS l i) (spec_StockOk.l0 k l ((i + 1 : Nat) : Int)) := by
  have hz := hs _ (rowmem l i hi)
  rw [spec_StockOk.l0, if_pos (by omega), if_pos (by omega), cell_spec _ hz.1 hz.2.1 hz.2.2 _ (by omega), Option.bind_some, find_eq l _ (by omega) _ (by omega), Option.bind_some, w64i hi (by omega)]
  have hf := find_iff l i hi
  unfold stopS
  rw [goOn_if]
  cases ht : twice l i
  · rw [if_pos (show scan (findS l (rd_T66 l (i : Int))) (-1) l.length 0 = (i : Int) from hf.2 ht)]
    cases cellB (rd_T66 l (i : Int)) <;> simp
  · rw [if_neg (show ¬ scan (findS l (rd_T66 l (i : Int))) (-1) l.length 0 = (i : Int) from fun h => by rw [hf.1 h] at ht; cases ht)]
    cases cellB (rd_T66 l (i : Int)) <;> simp
theorem impl_step (l : List S66) (hl : l.length ≤ 100) (hs : ∀ x ∈ l, x.f0.size ≤ 1048576 ∧ x.f1.size ≤ 1048576 ∧ x.f2.size ≤ 1048576) (k i : Nat) (hk : 1048600 ≤ k) (hi : i < l.length) :
    impl_StockOk.l0 (k + 1) l l (l.length : Int) (i : Int) = goOn (stopS l i) (impl_StockOk.l0 k l l (l.length : Int) ((i + 1 : Nat) : Int)) := by
  have hz := hs _ (rowmem l i hi)
  rw [impl_StockOk.l0, if_pos (by omega), if_pos (by omega), if_pos (by omega), cell_impl _ hz.1 hz.2.1 hz.2.2 _ (by omega), Option.bind_some]
  unfold impl_Cell_where.f
  rw [Option.bind_some]
  dsimp only
  rw [seen_eq l i hi (by omega) hz, Option.bind_some, Option.bind_some, w64i hi (by omega)]
  unfold stopS
  rw [goOn_if]
  cases twice l i <;> cases cellB (rd_T66 l (i : Int)) <;> simp
def stockB (l : List S66) : Bool := decide (l.length ≤ 100) && scan (stopS l) true l.length 0
theorem stock_spec (l : List S66) (hs : ∀ x ∈ l, x.f0.size ≤ 1048576 ∧ x.f1.size ≤ 1048576 ∧ x.f2.size ≤ 1048576) (k : Nat) (hk : 3000000 ≤ k) : spec_StockOk.f k l = some (stockB l) := by
  unfold spec_StockOk.f stockB
  by_cases h : l.length > 100
  · rw [if_pos (by omega), decide_eq_false (by omega), Bool.false_and]
  · rw [if_neg (by omega), decide_eq_true (by omega), Bool.true_and]
    refine loop_scanM0 (fun k i => spec_StockOk.l0 k l i) l.length 1048600 1 (stopS l) true ?_ ?_ k (by omega)
    · intro k i hk hi; exact spec_step l (by omega) hs k i hk hi
    · intro k _
      show spec_StockOk.l0 (k + 1) l (l.length : Int) = some true
      rw [spec_StockOk.l0, if_neg (by omega)]
theorem stock_impl (l : List S66) (hs : ∀ x ∈ l, x.f0.size ≤ 1048576 ∧ x.f1.size ≤ 1048576 ∧ x.f2.size ≤ 1048576) (k : Nat) (hk : 3000000 ≤ k) : impl_StockOk.f k l = some (stockB l) := by
  unfold impl_StockOk.f stockB
  by_cases h : l.length > 100
  · rw [if_pos (by omega), decide_eq_false (by omega), Bool.false_and]
  · rw [if_neg (by omega), decide_eq_true (by omega), Bool.true_and]
    refine loop_scanM0 (fun k i => impl_StockOk.l0 k l l (l.length : Int) i) l.length 1048600 1 (stopS l) true ?_ ?_ k (by omega)
    · intro k i hk hi; exact impl_step l (by omega) hs k i hk hi
    · intro k _
      show impl_StockOk.l0 (k + 1) l l (l.length : Int) (l.length : Int) = some true
      rw [impl_StockOk.l0, if_neg (by omega)]
theorem FnExactStockOk : laws_FnExactStockOk.Pure := by
  intro l ⟨hl, hx⟩
  refine ⟨10000000 + l.length, ?_⟩
  unfold laws_FnExactStockOk.f
  obtain ⟨r, hr, hc⟩ := szCellS_spec l (by rw [maxLen_eq] at hl; exact hl) (fun x h => ⟨(hx x h).1, (hx x h).2.1, (hx x h).2.2.1⟩) (10000000 + l.length) (by omega)
  rw [hr, Option.bind_some]
  rcases hc with hc | ⟨hc0, hc, hs⟩
  · rw [if_pos hc]
  · have hm : (l.map cvCell).length = l.length := by simp
    have hs' : ∀ x ∈ l.map cvCell, x.f0.size ≤ 1048576 ∧ x.f1.size ≤ 1048576 ∧ x.f2.size ≤ 1048576 := by
      intro x hx
      obtain ⟨y, hy, rfl⟩ := List.mem_map.1 hx
      exact hs y hy
    rw [if_neg (by omega), toCellS_eq l hc _ (by omega), Option.bind_some, stock_spec _ hs' _ (by omega), Option.bind_some, Option.bind_some, stock_impl _ hs' _ (by omega), Option.bind_some, if_neg (by simp), Option.bind_some, eqCellS_refl _ (by omega) _ (by omega)]
    rfl

end Go.Proofs.Yteeanacmhclnoab.Pure
