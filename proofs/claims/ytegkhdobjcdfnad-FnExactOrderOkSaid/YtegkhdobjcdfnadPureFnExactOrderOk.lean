/- The program's OrderOk answers as the reference's at every order, and the order reads as before. Conditions: none. -/
import Derived.Test.YtegkhdobjcdfnadPFnExactOrderOkx0
import Derived.Test.YtegkhdobjcdfnadPFnExactOrderOkx1
import Derived.Test.YtegkhdobjcdfnadPFnExactOrderOkx2
import Derived.Test.YtegkhdobjcdfnadPFnExactOrderOkx3
import Derived.Test.YtegkhdobjcdfnadPFnExactOrderOkx4
import Derived.Test.YtegkhdobjcdfnadPFnExactOrderOkx5
import Derived.Test.YtegkhdobjcdfnadPureAid
import Derived.Test.YtegkhdobjcdfnadWMore
namespace Go.Proofs.Ytegkhdobjcdfnad.Pure
open Go Go.RowKit Go.Proofs.Ytegkhdobjcdfnad.PFnExactOrderOk Go.Proofs.YtegkhdobjcdfnadW.PrintWords Go.Proofs.YtegkhdobjcdfnadW.PrintLast Go.Proofs.Ytegkhdobjcdfnad.Aid
set_option linter.unusedVariables false
set_option linter.unusedSimpArgs false
set_option maxRecDepth 100000
/-- The one pure statement of the law. -/
def laws_FnExactOrderOk.Pure : Prop := ∀ (l0 : List S47), (l0.length ≤ maxLen ∧ ∀ x ∈ l0, (x.f0.size ≤ maxLen ∧ (Lit.int .i64 x.f1).wf = true ∧ (Lit.int .i64 x.f2).wf = true)) → ∃ k, laws_FnExactOrderOk.f k l0 = some true
def cvOrderLine (x : S47) : S50 := ⟨x.f0,x.f1,x.f2⟩
theorem toOrderLineS_eq (l : List S47) (hl : l.length ≤ 1048576) (k : Nat) (hk : l.length < k) : laws_toOrderLineS.f k l = some (l.map cvOrderLine) := by
  unfold laws_toOrderLineS.f
  rw [if_pos (by omega), if_pos (by omega)]
  refine loop_fill0 (fun k acc i => laws_toOrderLineS.l0 k l acc i) l cvOrderLine 0 ?_ ?_ k (by omega) _ (by simp)
  · intro k acc i x _ hi ha hx
    simp only [laws_toOrderLineS.l0]
    rw [if_pos (by omega), if_pos (by omega), w64i hi (by omega)]
    unfold laws_toOrderLine.f rd_T47
    rw [getD_of hx]
    simp only [Option.bind_some]
    rw [if_pos (by omega), Int.toNat_natCast]
    rfl
  · intro k acc _
    simp only [laws_toOrderLineS.l0]
    rw [if_neg (by omega)]

theorem eqOrderLineS_refl (l : List S50) (hl : l.length ≤ 9223372036854775807) (k : Nat) (hk : l.length < k) : laws_eqOrderLineS.f k l l = some true := by
  unfold laws_eqOrderLineS.f
  rw [if_pos rfl]
  rw [loop_scan0 (fun k i => laws_eqOrderLineS.l0 k l l i) l.length 0 (fun _ => none) true ?_ ?_ ?_ k (by omega), scan_false _ _ (fun _ _ _ => rfl)]
  · intro k i r _ hi h
    cases h
  · intro k i _ hi h
    simp only [laws_eqOrderLineS.l0]
    rw [if_pos (by omega), if_pos (by omega), if_pos (by omega), w64i hi (by omega)]
    simp only [laws_eqOrderLine.f, Option.bind_some, if_true]
  · intro k _
    simp only [laws_eqOrderLineS.l0]
    rw [if_neg (by omega)]

theorem szOrderLine_spec (x : S47) (a : Int) (h0 : 0 ≤ a) (h1 : a ≤ 1048576) (hx : x.f0.size ≤ maxLen) : ∃ r, laws_szOrderLine.f x.f0 x.f1 x.f2 a = some r ∧ (r < 0 ∨ (0 ≤ r ∧ r ≤ a ∧ (x.f0.size : Int) ≤ a)) := by
  have e : maxLen = 9223372036854775807 := maxLen_eq
  unfold laws_szOrderLine.f
  rw [w64 (by omega) (by omega)]
  repeat' (first | (split; exact ⟨_, rfl, .inl (by omega)⟩) | rw [w64 (by omega) (by omega)])
  exact ⟨_, rfl, .inr (by omega)⟩
theorem szOrderLineS_loop (l : List S47) (hl : l.length ≤ 9223372036854775807) (hx : ∀ x ∈ l, x.f0.size ≤ maxLen) : ∀ (d i k : Nat) (a : Int), i + d = l.length → d < k → 0 ≤ a → a ≤ 1048576 → (∀ j x, j < i → l[j]? = some x → x.f0.size ≤ 1048576) →
    ∃ r, laws_szOrderLineS.l0 k l a (i : Int) = some r ∧ (r < 0 ∨ (0 ≤ r ∧ ∀ j x, j < l.length → l[j]? = some x → x.f0.size ≤ 1048576)) := by
  intro d
  induction d with
  | zero =>
    intro i k a hi hk h0 h1 hs
    obtain ⟨k, rfl⟩ : ∃ m, k = m + 1 := ⟨k - 1, by omega⟩
    simp only [laws_szOrderLineS.l0]
    rw [if_neg (by omega)]
    exact ⟨a, rfl, .inr ⟨h0, fun j x hj => hs j x (by omega)⟩⟩
  | succ d ih =>
    intro i k a hi hk h0 h1 hs
    obtain ⟨k, rfl⟩ : ∃ m, k = m + 1 := ⟨k - 1, by omega⟩
    simp only [laws_szOrderLineS.l0]
    have hli : i < l.length := by omega
    have hxi : l[i]? = some (l[i]'hli) := List.getElem?_eq_getElem hli
    rw [if_pos (by omega), if_pos (by omega), w64i hli hl]
    unfold rd_T47
    rw [getD_of hxi]
    obtain ⟨r, hr, hc⟩ := szOrderLine_spec (l[i]'hli) a h0 h1 (hx _ (List.getElem_mem hli))
    rw [hr]
    simp only [Option.bind_some]
    rcases hc with hc | ⟨hc0, hc1, hc2⟩
    · rw [if_pos hc]; exact ⟨_, rfl, .inl (by omega)⟩
    · rw [if_neg (by omega)]
      refine ih (i + 1) k r (by omega) (by omega) hc0 (by omega) (fun j x hj hjx => ?_)
      rcases Nat.lt_succ_iff_lt_or_eq.1 hj with h | rfl
      · exact hs j x h hjx
      · rw [hxi] at hjx
        obtain rfl := Option.some.inj hjx
        omega
theorem szOrderLineS_spec (l : List S47) (hl : l.length ≤ 9223372036854775807) (hx : ∀ x ∈ l, x.f0.size ≤ maxLen) (k : Nat) (hk : l.length < k) :
    ∃ r, laws_szOrderLineS.f k l 1048576 = some r ∧ (r < 0 ∨ (0 ≤ r ∧ l.length ≤ 1048576 ∧ ∀ x ∈ l, x.f0.size ≤ 1048576)) := by
  unfold laws_szOrderLineS.f
  rw [w64 (by omega) (by omega)]
  by_cases h : (1048576 - (l.length : Int)) < 0
  · exact ⟨_, if_pos h, .inl (by omega)⟩
  · rw [if_neg h]
    obtain ⟨r, hr, hc⟩ := szOrderLineS_loop l hl hx l.length 0 k (1048576 - (l.length : Int)) (by omega) hk (by omega) (by omega) (fun j x hj => by omega)
    refine ⟨r, hr, ?_⟩
    rcases hc with hc | ⟨hc0, hc1⟩
    · exact .inl hc
    · refine .inr ⟨hc0, by omega, fun x hxm => ?_⟩
      obtain ⟨j, hj, rfl⟩ := List.getElem_of_mem hxm
      exact hc1 j _ hj (List.getElem?_eq_getElem hj)

def nameB (b : Int) : Bool := decide ((b ≥ 97 ∧ b ≤ 122) ∨ (b ≥ 65 ∧ b ≤ 90) ∨ (b ≥ 48 ∧ b ≤ 57) ∨ b = 45 ∨ b = 95 ∨ b = 46)
theorem nameByte_eq (b : Int) : impl_nameByte.f b = some (nameB b) := by
  by_cases hb : nameB b = true
  · have h := hb
    unfold nameB at h
    rw [decide_eq_true_eq] at h
    rw [hb]
    unfold impl_nameByte.f
    repeat' split
    all_goals first | rfl | (exfalso; omega) | (congr 1; rw [beq_iff_eq]; omega)
  · have h := hb
    unfold nameB at h
    rw [decide_eq_true_eq] at h
    rw [Bool.not_eq_true] at hb
    rw [hb]
    unfold impl_nameByte.f
    repeat' split
    all_goals first | rfl | (exfalso; omega) | (congr 1; rw [beq_eq_false_iff_ne]; omega)
def nameStop (s : ByteArray) (i : Nat) : Option Bool := if nameB (bt s i) = true then none else some false
theorem nameSpec_step (k : Nat) (s : ByteArray) (i : Nat) (hi : i < s.size) (hs : s.size ≤ 9223372036854775807) :
    spec_NameOk.l0 (k + 1) s (i : Int) = if nameB (bt s i) = true then spec_NameOk.l0 k s ((i + 1 : Nat) : Int) else some false := by
  simp only [spec_NameOk.l0]
  rw [if_pos (by omega), if_pos (by omega), w64i hi hs]
  generalize bt s (i : Int) = b
  generalize spec_NameOk.l0 k s ((i + 1 : Nat) : Int) = X
  by_cases hb : nameB b = true
  · rw [if_pos hb]
    unfold nameB at hb
    rw [decide_eq_true_eq] at hb
    repeat' split
    all_goals first | rfl | (exfalso; omega)
  · rw [if_neg hb]
    unfold nameB at hb
    rw [decide_eq_true_eq] at hb
    repeat' split
    all_goals first | rfl | (exfalso; omega)
theorem nameSpec_end (k : Nat) (s : ByteArray) : spec_NameOk.l0 (k + 1) s (s.size : Int) = some (decide (1 ≤ s.size ∧ s.size ≤ 20)) := by
  simp only [spec_NameOk.l0]
  rw [if_neg (by omega)]
  unfold spec_l1In.f
  by_cases h : (s.size : Int) ≥ 1
  · rw [if_pos h]; simp only [Option.bind_some]; congr 1; rw [decide_eq_decide]; omega
  · rw [if_neg h]; simp only [Option.bind_some]; congr 1; symm; rw [decide_eq_false_iff_not]; omega
theorem nameSpec_eq (s : ByteArray) (hs : s.size ≤ 9223372036854775807) (k : Nat) (hk : s.size < k) : spec_NameOk.f k s = some (scan (nameStop s) (decide (1 ≤ s.size ∧ s.size ≤ 20)) s.size 0) := by
  unfold spec_NameOk.f
  refine loop_scan0 (fun k i => spec_NameOk.l0 k s i) s.size 0 (nameStop s) _ ?_ ?_ ?_ k (by omega)
  · intro k i r _ hi h
    rw [nameSpec_step k s i hi hs]
    unfold nameStop at h
    split at h
    · cases h
    · rename_i hb; rw [if_neg hb]; exact h
  · intro k i _ hi h
    rw [nameSpec_step k s i hi hs]
    unfold nameStop at h
    split at h
    · rename_i hb; rw [if_pos hb]
    · cases h
  · intro k _; exact nameSpec_end k s
theorem nameImpl_step (k : Nat) (s : ByteArray) (i : Nat) (hi : i < s.size) (hs : s.size ≤ 9223372036854775807) :
    impl_NameOk.l0 (k + 1) s (i : Int) = if nameB (bt s i) = true then impl_NameOk.l0 k s ((i + 1 : Nat) : Int) else some false := by
  simp only [impl_NameOk.l0]
  rw [if_pos (by omega), if_pos (by omega), w64i hi hs, nameByte_eq]
  rfl
theorem nameImpl_loop (s : ByteArray) (hs : s.size ≤ 9223372036854775807) (k : Nat) (hk : s.size < k) : impl_NameOk.l0 k s 0 = some (scan (nameStop s) true s.size 0) := by
  refine loop_scan0 (fun k i => impl_NameOk.l0 k s i) s.size 0 (nameStop s) _ ?_ ?_ ?_ k (by omega)
  · intro k i r _ hi h
    rw [nameImpl_step k s i hi hs]
    unfold nameStop at h
    split at h
    · cases h
    · rename_i hb; rw [if_neg hb]; exact h
  · intro k i _ hi h
    rw [nameImpl_step k s i hi hs]
    unfold nameStop at h
    split at h
    · rename_i hb; rw [if_pos hb]
    · cases h
  · intro k _
    simp only [impl_NameOk.l0]
    rw [if_neg (by omega)]
/-- What a name is. -/
def nameOk (s : ByteArray) : Bool := decide (1 ≤ s.size ∧ s.size ≤ 20) && scan (nameStop s) true s.size 0
theorem nameSpec (s : ByteArray) (hs : s.size ≤ 9223372036854775807) (k : Nat) (hk : s.size < k) : spec_NameOk.f k s = some (nameOk s) := by
  rw [nameSpec_eq s hs k hk]
  congr 1
  unfold nameOk
  by_cases h : 1 ≤ s.size ∧ s.size ≤ 20
  · rw [decide_eq_true h, Bool.true_and]
  · rw [decide_eq_false h, Bool.false_and]
    rcases scan_cases (nameStop s) false s.size 0 with ⟨j, r, _, _, h3, _, h5⟩ | ⟨_, h2⟩
    · rw [h5]
      unfold nameStop at h3
      split at h3
      · cases h3
      · exact (Option.some.inj h3).symm
    · exact h2
theorem nameImpl (s : ByteArray) (hs : s.size ≤ 9223372036854775807) (k : Nat) (hk : s.size + 1 < k) : impl_NameOk.f k s = some (nameOk s) := by
  obtain ⟨k, rfl⟩ : ∃ m, k = m + 1 := ⟨k - 1, by omega⟩
  unfold impl_NameOk.f nameOk
  by_cases h1 : (s.size : Int) < 1
  · rw [if_pos h1, decide_eq_false (by omega), Bool.false_and]
    rfl
  · rw [if_neg h1]
    simp only [impl_NameOk.j0]
    by_cases h2 : (s.size : Int) > 20
    · rw [if_pos (decide_eq_true h2), decide_eq_false (by omega), Bool.false_and]
    · rw [if_neg (by simpa using h2), nameImpl_loop s hs k (by omega), decide_eq_true (by omega), Bool.true_and]

theorem two_dec (a b : Prop) [Decidable a] [Decidable b] : (if a then some (decide b) else some false) = some (decide (a ∧ b)) := by
  by_cases h : a
  · rw [if_pos h]; congr 1; rw [decide_eq_decide]; exact ⟨fun hb => ⟨h, hb⟩, fun hb => hb.2⟩
  · rw [if_neg h]; congr 1; symm; rw [decide_eq_false_iff_not]; exact fun hb => h hb.1

theorem l1In_eq (a b c : Int) : spec_l1In.f a b c = some (decide (b ≤ a ∧ a ≤ c)) := by unfold spec_l1In.f; exact two_dec (a ≥ b) (a ≤ c)

theorem l12Price_eq (a : Int) : spec_l12Price.f a = some (decide (0 ≤ a ∧ a ≤ 100000)) := by unfold spec_l12Price.f; rw [l1In_eq]; rfl

theorem between_eq (a b c : Int) : impl_between.f a b c = some (decide (b ≤ a ∧ a ≤ c)) := by unfold impl_between.f; exact two_dec (a ≥ b) (a ≤ c)

theorem price_eq (a : Int) : impl_price.f a = some (decide (0 ≤ a ∧ a ≤ 100000)) := by unfold impl_price.f; rw [between_eq]; rfl

def lineB (x : S50) : Bool := nameOk x.f0 && decide (1 ≤ x.f1 ∧ x.f1 ≤ 1000000) && decide (0 ≤ x.f2 ∧ x.f2 ≤ 100000)
def lineStop (l : List S50) (i : Nat) : Option Bool := if lineB (rd_T50 l i) = true then none else some false
def orderOk (l : List S50) : Bool := decide (1 ≤ l.length ∧ l.length ≤ 60) && scan (lineStop l) true l.length 0
theorem rd_mem (l : List S50) (i : Nat) (hi : i < l.length) : rd_T50 l (i : Int) ∈ l := by
  unfold rd_T50
  rw [getD_of (List.getElem?_eq_getElem hi)]
  exact List.getElem_mem hi
theorem orderSpec_eq (l : List S50) (hl : l.length ≤ 1048576) (hs : ∀ x ∈ l, x.f0.size ≤ 1048576) (k : Nat) (hk : 3000000 ≤ k) : spec_OrderOk.f k l = some (orderOk l) := by
  unfold spec_OrderOk.f orderOk
  rw [l1In_eq]
  simp only [Option.bind_some, decide_eq_true_eq]
  by_cases h1 : 1 ≤ (l.length : Int) ∧ (l.length : Int) ≤ 60
  · rw [if_pos h1, decide_eq_true (show 1 ≤ l.length ∧ l.length ≤ 60 by omega)]
    simp only [Bool.true_and]
    refine loop_scanM0 (fun k i => spec_OrderOk.l0 k l i) l.length 1048580 1 (lineStop l) true ?_ ?_ k (by omega)
    · intro k i hk hi
      simp only [spec_OrderOk.l0]
      have hz := hs _ (rd_mem l i hi)
      rw [if_pos (by omega), if_pos (by omega), w64i hi (by omega), nameSpec _ (by omega) _ (by omega)]
      simp only [l1In_eq, l12Price_eq, Option.bind_some]
      unfold lineStop lineB
      rw [goOn_if]
      generalize nameOk (rd_T50 l i).f0 = c0
      generalize decide (1 ≤ (rd_T50 l i).f1 ∧ (rd_T50 l i).f1 ≤ 1000000) = c1
      generalize decide (0 ≤ (rd_T50 l i).f2 ∧ (rd_T50 l i).f2 ≤ 100000) = c2
      cases c0 <;> cases c1 <;> cases c2 <;> simp
    · intro k _
      simp only [spec_OrderOk.l0]
      rw [if_neg (by omega)]
  · rw [if_neg h1, decide_eq_false (by omega)]; rfl
theorem orderImpl_eq (l : List S50) (hl : l.length ≤ 1048576) (hs : ∀ x ∈ l, x.f0.size ≤ 1048576) (k : Nat) (hk : 3000000 ≤ k) : impl_OrderOk.f k l = some (orderOk l) := by
  obtain ⟨k, rfl⟩ : ∃ m, k = m + 1 := ⟨k - 1, by omega⟩
  have key : ∀ b, impl_OrderOk.j0 (k + 1) l b = some (!b && scan (lineStop l) true l.length 0) := by
    intro b
    simp only [impl_OrderOk.j0]
    cases b with
    | true => rfl
    | false =>
      rw [if_neg (by simp)]
      simp only [Bool.not_false, Bool.true_and]
      refine loop_scanM0 (fun k i => impl_OrderOk.l0 k l (l.length : Int) i) l.length 1048580 1 (lineStop l) true ?_ ?_ k (by omega)
      · intro k i hk hi
        simp only [impl_OrderOk.l0]
        have hz := hs _ (rd_mem l i hi)
        rw [if_pos (by omega), if_pos (by omega), if_pos (by omega), w64i hi (by omega), nameImpl _ (by omega) _ (by omega)]
        simp only [between_eq, price_eq, Option.bind_some]
        unfold lineStop lineB
        rw [goOn_if]
        generalize nameOk (rd_T50 l i).f0 = c0
        generalize decide (1 ≤ (rd_T50 l i).f1 ∧ (rd_T50 l i).f1 ≤ 1000000) = c1
        generalize decide (0 ≤ (rd_T50 l i).f2 ∧ (rd_T50 l i).f2 ≤ 100000) = c2
        cases c0 <;> cases c1 <;> cases c2 <;> simp
      · intro k _
        simp only [impl_OrderOk.l0]
        rw [if_neg (by omega)]
  unfold impl_OrderOk.f orderOk
  by_cases h1 : (l.length : Int) < 1
  · rw [if_pos h1, key, decide_eq_false (by omega)]; rfl
  · rw [if_neg h1, key]
    by_cases h2 : (l.length : Int) > 60
    · rw [decide_eq_true h2, decide_eq_false (by omega)]; rfl
    · rw [decide_eq_false h2, decide_eq_true (show 1 ≤ l.length ∧ l.length ≤ 60 by omega)]; rfl
theorem FnExactOrderOk : laws_FnExactOrderOk.Pure := by
  intro l ⟨hl, hx⟩
  refine ⟨10000000 + l.length, ?_⟩
  unfold laws_FnExactOrderOk.f
  obtain ⟨r, hr, hc⟩ := szOrderLineS_spec l (by rw [maxLen_eq] at hl; exact hl) (fun x h => (hx x h).1) (10000000 + l.length) (by omega)
  rw [hr]
  simp only [Option.bind_some]
  rcases hc with hc | ⟨hc0, hc, hs⟩
  · rw [if_pos hc]
  · have hm : (l.map cvOrderLine).length = l.length := by simp
    have hs' : ∀ x ∈ l.map cvOrderLine, x.f0.size ≤ 1048576 := by
      intro x hx
      obtain ⟨y, hy, rfl⟩ := List.mem_map.1 hx
      exact hs y hy
    rw [if_neg (by omega), toOrderLineS_eq l hc _ (by omega)]
    simp only [Option.bind_some]
    rw [orderSpec_eq _ (by omega) hs' _ (by omega), orderImpl_eq _ (by omega) hs' _ (by omega)]
    simp only [Option.bind_some]
    rw [if_neg (by simp), eqOrderLineS_refl _ (by omega) _ (by omega)]
    rfl

end Go.Proofs.Ytegkhdobjcdfnad.Pure
