/- The program's OfferOk answers as the reference's at every offer and number, and the offer reads as before. Conditions: none. -/
import Derived.Test.YtdnfagcnojnmiaaPFnExactOfferOkx0
import Derived.Test.YtdnfagcnojnmiaaPFnExactOfferOkx1
import Derived.Test.YtdnfagcnojnmiaaPFnExactOfferOkx2
import Derived.Test.YtdnfagcnojnmiaaPFnExactOfferOkx3
import Derived.Test.YtdnfagcnojnmiaaPFnExactOfferOkx4
import Derived.Test.YtdnfagcnojnmiaaPFnExactOfferOkx5
import Derived.Test.YtdnfagcnojnmiaaPFnExactOfferOkx6
import Derived.Test.YtdnfagcnojnmiaaPFnExactOfferOkx7
import Derived.Test.YtdnfagcnojnmiaaPureAid
import Derived.Test.YtdnfagcnojnmiaaWMore
namespace Go.Proofs.Ytdnfagcnojnmiaa.Pure
open Go Go.RowKit Go.Proofs.Ytdnfagcnojnmiaa.PFnExactOfferOk Go.Proofs.YtdnfagcnojnmiaaW.PrintWords Go.Proofs.YtdnfagcnojnmiaaW.PrintLast Go.Proofs.Ytdnfagcnojnmiaa.Aid
set_option linter.unusedVariables false
set_option linter.unusedSimpArgs false
set_option maxRecDepth 100000
/-- The one pure statement of the law. -/
def laws_FnExactOfferOk.Pure : Prop := ∀ (a0_0 : ByteArray) (a0_1 : ByteArray) (a0_2 : Int) (a0_3 : Int) (a0_4 : Int) (a0_5 : Int) (l0_6 : List S93) (a1 : Int), a0_0.size ≤ maxLen → a0_1.size ≤ maxLen → (Lit.int .i64 a0_2).wf = true → (Lit.int .i64 a0_3).wf = true → (Lit.int .i64 a0_4).wf = true → (Lit.int .i64 a0_5).wf = true → (l0_6.length ≤ maxLen ∧ ∀ x ∈ l0_6, ((Lit.int .i64 x.f0).wf = true ∧ (Lit.int .i64 x.f1).wf = true)) → (Lit.int .i64 a1).wf = true → ∃ k, laws_FnExactOfferOk.f k a0_0 a0_1 a0_2 a0_3 a0_4 a0_5 l0_6 a1 = some true
def cvScale (x : S93) : S64 := ⟨x.f0,x.f1⟩
theorem toScaleS_eq (l : List S93) (hl : l.length ≤ 1048576) (k : Nat) (hk : l.length < k) : laws_toScaleS.f k l = some (l.map cvScale) := by
  unfold laws_toScaleS.f
  rw [if_pos (by omega), if_pos (by omega)]
  refine loop_fill0 (fun k acc i => laws_toScaleS.l0 k l acc i) l cvScale 0 ?_ ?_ k (by omega) _ (by simp)
  · intro k acc i x _ hi ha hx
    simp only [laws_toScaleS.l0]
    rw [if_pos (by omega), if_pos (by omega), w64i hi (by omega)]
    unfold laws_toScale.f rd_T93
    rw [getD_of hx]
    simp only [Option.bind_some]
    rw [if_pos (by omega), Int.toNat_natCast]
    rfl
  · intro k acc _
    simp only [laws_toScaleS.l0]
    rw [if_neg (by omega)]

theorem eqScaleS_refl (l : List S64) (hl : l.length ≤ 9223372036854775807) (k : Nat) (hk : l.length < k) : laws_eqScaleS.f k l l = some true := by
  unfold laws_eqScaleS.f
  rw [if_pos rfl]
  rw [loop_scan0 (fun k i => laws_eqScaleS.l0 k l l i) l.length 0 (fun _ => none) true ?_ ?_ ?_ k (by omega), scan_false _ _ (fun _ _ _ => rfl)]
  · intro k i r _ hi h
    cases h
  · intro k i _ hi h
    simp only [laws_eqScaleS.l0]
    rw [if_pos (by omega), if_pos (by omega), if_pos (by omega), w64i hi (by omega)]
    simp only [laws_eqScale.f, Option.bind_some, if_true]
  · intro k _
    simp only [laws_eqScaleS.l0]
    rw [if_neg (by omega)]

theorem szScaleS_spec (l : List S93) (hl : l.length ≤ 9223372036854775807) (k : Nat) (hk : l.length < k) : ∃ r, laws_szScaleS.f l 1048576 = some r ∧ (r < 0 ∨ (0 ≤ r ∧ l.length ≤ 1048576)) := by
  unfold laws_szScaleS.f
  rw [w64 (by omega) (by omega)]
  by_cases h : (1048576 - (l.length : Int)) < 0
  · exact ⟨_, if_pos h, .inl (by omega)⟩
  · exact ⟨_, if_neg h, .inr ⟨by omega, by omega⟩⟩

def nameB (b : Int) : Bool := decide ((b ≥ 97 ∧ b ≤ 122) ∨ (b ≥ 65 ∧ b ≤ 90) ∨ (b ≥ 48 ∧ b ≤ 57) ∨ b = 45 ∨ b = 95 ∨ b = 46)
theorem nameByte_eq (b : Int) : impl_nameByte.f b = some (nameB b) := by
  by_cases hb : nameB b = true
  · have h := hb
    unfold nameB at h
    rw [decide_eq_true_eq] at h
    rw [hb]
    unfold impl_nameByte.f
    repeat' split
    all_goals first | rfl | (exfalso; omega) | (congr 1; rw [beq_iff_eq]; omega)
  · have h := hb
    unfold nameB at h
    rw [decide_eq_true_eq] at h
    rw [Bool.not_eq_true] at hb
    rw [hb]
    unfold impl_nameByte.f
    repeat' split
    all_goals first | rfl | (exfalso; omega) | (congr 1; rw [beq_eq_false_iff_ne]; omega)
def nameStop (s : ByteArray) (i : Nat) : Option Bool := if nameB (bt s i) = true then none else some false
theorem nameSpec_step (k : Nat) (s : ByteArray) (i : Nat) (hi : i < s.size) (hs : s.size ≤ 9223372036854775807) :
    spec_NameOk.l0 (k + 1) s (i : Int) = if nameB (bt s i) = true then spec_NameOk.l0 k s ((i + 1 : Nat) : Int) else some false := by
  simp only [spec_NameOk.l0]
  rw [if_pos (by omega), if_pos (by omega), w64i hi hs]
  generalize bt s (i : Int) = b
  generalize spec_NameOk.l0 k s ((i + 1 : Nat) : Int) = X
  by_cases hb : nameB b = true
  · rw [if_pos hb]
    unfold nameB at hb
    rw [decide_eq_true_eq] at hb
    repeat' split
    all_goals first | rfl | (exfalso; omega)
  · rw [if_neg hb]
    unfold nameB at hb
    rw [decide_eq_true_eq] at hb
    repeat' split
    all_goals first | rfl | (exfalso; omega)
theorem nameSpec_end (k : Nat) (s : ByteArray) : spec_NameOk.l0 (k + 1) s (s.size : Int) = some (decide (1 ≤ s.size ∧ s.size ≤ 20)) := by
  simp only [spec_NameOk.l0]
  rw [if_neg (by omega)]
  unfold spec_l1In.f
  by_cases h : (s.size : Int) ≥ 1
  · rw [if_pos h]; simp only [Option.bind_some]; congr 1; rw [decide_eq_decide]; omega
  · rw [if_neg h]; simp only [Option.bind_some]; congr 1; symm; rw [decide_eq_false_iff_not]; omega
theorem nameSpec_eq (s : ByteArray) (hs : s.size ≤ 9223372036854775807) (k : Nat) (hk : s.size < k) : spec_NameOk.f k s = some (scan (nameStop s) (decide (1 ≤ s.size ∧ s.size ≤ 20)) s.size 0) := by
  unfold spec_NameOk.f
  refine loop_scan0 (fun k i => spec_NameOk.l0 k s i) s.size 0 (nameStop s) _ ?_ ?_ ?_ k (by omega)
  · intro k i r _ hi h
    rw [nameSpec_step k s i hi hs]
    unfold nameStop at h
    split at h
    · cases h
    · rename_i hb; rw [if_neg hb]; exact h
  · intro k i _ hi h
    rw [nameSpec_step k s i hi hs]
    unfold nameStop at h
    split at h
    · rename_i hb; rw [if_pos hb]
    · cases h
  · intro k _; exact nameSpec_end k s
theorem nameImpl_step (k : Nat) (s : ByteArray) (i : Nat) (hi : i < s.size) (hs : s.size ≤ 9223372036854775807) :
    impl_NameOk.l0 (k + 1) s (i : Int) = if nameB (bt s i) = true then impl_NameOk.l0 k s ((i + 1 : Nat) : Int) else some false := by
  simp only [impl_NameOk.l0]
  rw [if_pos (by omega), if_pos (by omega), w64i hi hs, nameByte_eq]
  rfl
theorem nameImpl_loop (s : ByteArray) (hs : s.size ≤ 9223372036854775807) (k : Nat) (hk : s.size < k) : impl_NameOk.l0 k s 0 = some (scan (nameStop s) true s.size 0) := by
  refine loop_scan0 (fun k i => impl_NameOk.l0 k s i) s.size 0 (nameStop s) _ ?_ ?_ ?_ k (by omega)
  · intro k i r _ hi h
    rw [nameImpl_step k s i hi hs]
    unfold nameStop at h
    split at h
    · cases h
    · rename_i hb; rw [if_neg hb]; exact h
  · intro k i _ hi h
    rw [nameImpl_step k s i hi hs]
    unfold nameStop at h
    split at h
    · rename_i hb; rw [if_pos hb]
    · cases h
  · intro k _
    simp only [impl_NameOk.l0]
    rw [if_neg (by omega)]
/-- What a name is. -/
def nameOk (s : ByteArray) : Bool := decide (1 ≤ s.size ∧ s.size ≤ 20) && scan (nameStop s) true s.size 0
theorem nameSpec (s : ByteArray) (hs : s.size ≤ 9223372036854775807) (k : Nat) (hk : s.size < k) : spec_NameOk.f k s = some (nameOk s) := by
  rw [nameSpec_eq s hs k hk]
  congr 1
  unfold nameOk
  by_cases h : 1 ≤ s.size ∧ s.size ≤ 20
  · rw [decide_eq_true h, Bool.true_and]
  · rw [decide_eq_false h, Bool.false_and]
    rcases scan_cases (nameStop s) false s.size 0 with ⟨j, r, _, _, h3, _, h5⟩ | ⟨_, h2⟩
    · rw [h5]
      unfold nameStop at h3
      split at h3
      · cases h3
      · exact (Option.some.inj h3).symm
    · exact h2
theorem nameImpl (s : ByteArray) (hs : s.size ≤ 9223372036854775807) (k : Nat) (hk : s.size + 1 < k) : impl_NameOk.f k s = some (nameOk s) := by
  obtain ⟨k, rfl⟩ : ∃ m, k = m + 1 := ⟨k - 1, by omega⟩
  unfold impl_NameOk.f nameOk
  by_cases h1 : (s.size : Int) < 1
  · rw [if_pos h1, decide_eq_false (by omega), Bool.false_and]
    rfl
  · rw [if_neg h1]
    simp only [impl_NameOk.j0]
    by_cases h2 : (s.size : Int) > 20
    · rw [if_pos (decide_eq_true h2), decide_eq_false (by omega), Bool.false_and]
    · rw [if_neg (by simpa using h2), nameImpl_loop s hs k (by omega), decide_eq_true (by omega), Bool.true_and]

theorem two_dec (a b : Prop) [Decidable a] [Decidable b] : (if a then some (decide b) else some false) = some (decide (a ∧ b)) := by
  by_cases h : a
  · rw [if_pos h]; congr 1; rw [decide_eq_decide]; exact ⟨fun hb => ⟨h, hb⟩, fun hb => hb.2⟩
  · rw [if_neg h]; congr 1; symm; rw [decide_eq_false_iff_not]; exact fun hb => h hb.1

theorem l1In_eq (a b c : Int) : spec_l1In.f a b c = some (decide (b ≤ a ∧ a ≤ c)) := by unfold spec_l1In.f; exact two_dec (a ≥ b) (a ≤ c)

theorem l2Day_eq (a : Int) : spec_l2Day.f a = some (decide (0 ≤ a ∧ a ≤ 40000)) := by unfold spec_l2Day.f; rw [l1In_eq]; rfl

theorem between_eq (a b c : Int) : impl_between.f a b c = some (decide (b ≤ a ∧ a ≤ c)) := by unfold impl_between.f; exact two_dec (a ≥ b) (a ≤ c)

theorem isDay_eq (a : Int) : impl_isDay.f a = some (decide (0 ≤ a ∧ a ≤ 40000)) := by unfold impl_isDay.f; rw [between_eq]; rfl

theorem l12Qty_eq (a : Int) : spec_l12Qty.f a = some (decide (0 ≤ a ∧ a ≤ 1000000)) := by unfold spec_l12Qty.f; rw [l1In_eq]; rfl

theorem quantity_eq (a : Int) : impl_quantity.f a = some (decide (0 ≤ a ∧ a ≤ 1000000)) := by unfold impl_quantity.f; rw [between_eq]; rfl

theorem l12Price_eq (a : Int) : spec_l12Price.f a = some (decide (0 ≤ a ∧ a ≤ 100000)) := by unfold spec_l12Price.f; rw [l1In_eq]; rfl

theorem price_eq (a : Int) : impl_price.f a = some (decide (0 ≤ a ∧ a ≤ 100000)) := by unfold impl_price.f; rw [between_eq]; rfl

theorem prev_w (i : Nat) (h : 0 < i) (hi : i ≤ 9223372036854775807) : wrap64 ((i : Int) - 1) = ((i - 1 : Nat) : Int) := by unfold wrap64; omega

def scaleB (x : S64) : Bool := decide (0 ≤ x.f0 ∧ x.f0 ≤ 1000000) && decide (0 ≤ x.f1 ∧ x.f1 ≤ 100000)
def offStop (l : List S64) (least : Int) (i : Nat) : Option Bool := if (scaleB (rd_T64 l i) && (decide (i ≠ 0) || decide ((rd_T64 l i).f0 = least)) && (decide (i = 0) || decide ((rd_T64 l ((i - 1 : Nat) : Int)).f0 < (rd_T64 l i).f0))) = true then none else some false
def offB (who item : ByteArray) (cur first last least : Int) (l : List S64) (n : Int) : Bool :=
  nameOk who && (nameOk item && (decide (1 ≤ n ∧ n ≤ 20) && (decide (0 ≤ cur ∧ cur ≤ wrap64 (n - 1)) && (decide (0 ≤ first ∧ first ≤ 40000) && (decide (0 ≤ last ∧ last ≤ 40000) && (decide (first ≤ last) && (decide (1 ≤ least ∧ least ≤ 1000000) && (decide (1 ≤ (l.length : Int) ∧ (l.length : Int) ≤ 12) && scan (offStop l least) true l.length 0))))))))
theorem offSpec_step (who item : ByteArray) (cur first last least : Int) (l : List S64) (hl : l.length ≤ 1048576) (h0 : (rd_T64 l 0).f0 = least) (k i : Nat) (hi : i < l.length) :
    spec_OfferOk.l0 (k + 1) (i : Int) who item cur first last least l = goOn (offStop l least i) (spec_OfferOk.l0 k ((i + 1 : Nat) : Int) who item cur first last least l) := by
  simp only [spec_OfferOk.l0]
  rw [if_pos (by omega), if_pos (by omega), l12Qty_eq, l12Price_eq, w64i hi (by omega)]
  simp only [Option.bind_some]
  unfold offStop scaleB
  rw [goOn_if]
  by_cases h : i = 0
  · subst h
    rw [show ((0 : Nat) : Int) = 0 from rfl, h0]
    generalize decide (0 ≤ least ∧ least ≤ 1000000) = c0
    generalize decide (0 ≤ (rd_T64 l 0).f1 ∧ (rd_T64 l 0).f1 ≤ 100000) = c1
    cases c0 <;> cases c1 <;> simp
  · rw [prev_w i (by omega) (by omega), if_pos (show (i : Int) > 0 by omega), if_pos (show (0 : Int) ≤ ((i - 1 : Nat) : Int) by omega), if_pos (show ((i - 1 : Nat) : Int) < (l.length : Int) by omega)]
    generalize decide (0 ≤ (rd_T64 l (i : Int)).f0 ∧ (rd_T64 l (i : Int)).f0 ≤ 1000000) = c0
    generalize decide (0 ≤ (rd_T64 l (i : Int)).f1 ∧ (rd_T64 l (i : Int)).f1 ≤ 100000) = c1
    generalize (rd_T64 l (i : Int)).f0 = x
    generalize (rd_T64 l ((i - 1 : Nat) : Int)).f0 = p
    by_cases hp : p < x
    · rw [if_neg (show ¬ p ≥ x by omega), decide_eq_true hp]
      cases c0 <;> cases c1 <;> simp [h]
    · rw [if_pos (show p ≥ x by omega), decide_eq_false hp]
      cases c0 <;> cases c1 <;> simp [h]
theorem offSpec_eq (who item : ByteArray) (cur first last least : Int) (l : List S64) (n : Int) (hl : l.length ≤ 1048576) (h1 : who.size ≤ 1048576) (h2 : item.size ≤ 1048576) (k : Nat) (hk : 3000000 ≤ k) :
    spec_OfferOk.f k who item cur first last least l n = some (offB who item cur first last least l n) := by
  obtain ⟨k, rfl⟩ : ∃ m, k = m + 1 := ⟨k - 1, by omega⟩
  have kt : spec_OfferOk.j0 (k + 1) true who item cur first last least l = some false := by
    simp only [spec_OfferOk.j0]; rfl
  have kf : (rd_T64 l 0).f0 = least → spec_OfferOk.j0 (k + 1) false who item cur first last least l = some (scan (offStop l least) true l.length 0) := by
    intro h0
    simp only [spec_OfferOk.j0]
    rw [if_neg (by simp)]
    refine loop_scanM0 (fun k i => spec_OfferOk.l0 k i who item cur first last least l) l.length 0 1 (offStop l least) true ?_ ?_ k (by omega)
    · intro k i _ hi; exact offSpec_step who item cur first last least l hl h0 k i hi
    · intro k _
      simp only [spec_OfferOk.l0]
      rw [if_neg (by omega)]
  unfold spec_OfferOk.f offB
  rw [nameSpec _ (by omega) _ (by omega), nameSpec _ (by omega) _ (by omega)]
  simp only [l1In_eq, l2Day_eq, Option.bind_some, kt]
  generalize nameOk who = c0
  cases c0 with
  | false => rfl
  | true =>
  rw [if_pos rfl, Bool.true_and]
  generalize nameOk item = c1
  cases c1 with
  | false => rfl
  | true =>
  rw [if_pos rfl, Bool.true_and]
  generalize decide (1 ≤ n ∧ n ≤ 20) = c2
  cases c2 with
  | false => rfl
  | true =>
  rw [if_pos rfl, Bool.true_and]
  generalize decide (0 ≤ cur ∧ cur ≤ wrap64 (n - 1)) = c3
  cases c3 with
  | false => rfl
  | true =>
  rw [if_pos rfl, Bool.true_and]
  generalize decide (0 ≤ first ∧ first ≤ 40000) = c4
  cases c4 with
  | false => rfl
  | true =>
  rw [if_pos rfl, Bool.true_and]
  generalize decide (0 ≤ last ∧ last ≤ 40000) = c5
  cases c5 with
  | false => rfl
  | true =>
  rw [if_pos rfl, Bool.true_and]
  by_cases h6 : first > last
  · rw [if_pos h6, decide_eq_false (by omega)]; rfl
  rw [if_neg h6, decide_eq_true (show first ≤ last by omega), Bool.true_and]
  generalize decide (1 ≤ least ∧ least ≤ 1000000) = c7
  cases c7 with
  | false => rfl
  | true =>
  rw [if_pos rfl, Bool.true_and]
  by_cases h8 : 1 ≤ (l.length : Int) ∧ (l.length : Int) ≤ 12
  · rw [decide_eq_true h8, if_pos rfl, Bool.true_and, if_pos (by omega)]
    by_cases h9 : (rd_T64 l 0).f0 = least
    · rw [show ((rd_T64 l 0).f0 != least) = false by simp [h9], kf h9]
    · rw [show ((rd_T64 l 0).f0 != least) = true by simp [h9], kt]
      obtain ⟨m, hm⟩ : ∃ m, l.length = m + 1 := ⟨l.length - 1, by omega⟩
      have hs : offStop l least 0 = some false := by
        unfold offStop
        rw [if_neg]
        rw [show ((0 : Nat) : Int) = 0 from rfl, decide_eq_false h9]
        simp
      rw [hm]; unfold scan; rw [hs]
  · rw [decide_eq_false h8]; rfl
theorem offImpl_step (who item : ByteArray) (cur first last least : Int) (l : List S64) (hl : l.length ≤ 1048576) (k i : Nat) (hi : i < l.length) :
    impl_OfferOk.l0 (k + 1) l (l.length : Int) (i : Int) who item cur first last least l = goOn (offStop l least i) (impl_OfferOk.l0 k l (l.length : Int) ((i + 1 : Nat) : Int) who item cur first last least l) := by
  simp only [impl_OfferOk.l0]
  rw [if_pos (by omega), if_pos (by omega), if_pos (by omega), quantity_eq, price_eq, w64i hi (by omega)]
  simp only [Option.bind_some]
  unfold offStop scaleB
  rw [goOn_if]
  by_cases h : i = 0
  · subst h
    rw [show ((0 : Nat) : Int) = 0 from rfl]
    generalize decide (0 ≤ (rd_T64 l 0).f0 ∧ (rd_T64 l 0).f0 ≤ 1000000) = c0
    generalize decide (0 ≤ (rd_T64 l 0).f1 ∧ (rd_T64 l 0).f1 ≤ 100000) = c1
    by_cases hp : (rd_T64 l 0).f0 = least
    · rw [if_pos hp, decide_eq_true hp]
      cases c0 <;> cases c1 <;> simp
    · rw [if_neg hp, decide_eq_false hp]
      cases c0 <;> cases c1 <;> simp
  · rw [prev_w i (by omega) (by omega), if_neg (show ¬ (i : Int) = 0 by omega), if_pos (show (i : Int) > 0 by omega), if_pos (show (0 : Int) ≤ ((i - 1 : Nat) : Int) by omega), if_pos (show ((i - 1 : Nat) : Int) < (l.length : Int) by omega)]
    generalize decide (0 ≤ (rd_T64 l (i : Int)).f0 ∧ (rd_T64 l (i : Int)).f0 ≤ 1000000) = c0
    generalize decide (0 ≤ (rd_T64 l (i : Int)).f1 ∧ (rd_T64 l (i : Int)).f1 ≤ 100000) = c1
    generalize (rd_T64 l (i : Int)).f0 = x
    generalize (rd_T64 l ((i - 1 : Nat) : Int)).f0 = p
    by_cases hp : p < x
    · rw [if_neg (show ¬ p ≥ x by omega), decide_eq_true hp]
      cases c0 <;> cases c1 <;> simp [h]
    · rw [if_pos (show p ≥ x by omega), decide_eq_false hp]
      cases c0 <;> cases c1 <;> simp [h]
theorem offImpl_eq (who item : ByteArray) (cur first last least : Int) (l : List S64) (n : Int) (hl : l.length ≤ 1048576) (h1 : who.size ≤ 1048576) (h2 : item.size ≤ 1048576) (k : Nat) (hk : 3000000 ≤ k) :
    impl_OfferOk.f k who item cur first last least l n = some (offB who item cur first last least l n) := by
  obtain ⟨k, rfl⟩ : ∃ m, k = m + 1 := ⟨k - 1, by omega⟩
  have kt : impl_OfferOk.j0 (k + 1) true who item cur first last least l = some false := by
    simp only [impl_OfferOk.j0]; rfl
  have kf : impl_OfferOk.j0 (k + 1) false who item cur first last least l = some (scan (offStop l least) true l.length 0) := by
    simp only [impl_OfferOk.j0]
    rw [if_neg (by simp)]
    refine loop_scanM0 (fun k i => impl_OfferOk.l0 k l (l.length : Int) i who item cur first last least l) l.length 0 1 (offStop l least) true ?_ ?_ k (by omega)
    · intro k i _ hi; exact offImpl_step who item cur first last least l hl k i hi
    · intro k _
      simp only [impl_OfferOk.l0]
      rw [if_neg (by omega)]
  unfold impl_OfferOk.f offB
  rw [nameImpl _ (by omega) _ (by omega), nameImpl _ (by omega) _ (by omega)]
  simp only [between_eq, isDay_eq, Option.bind_some, kt]
  generalize nameOk who = c0
  generalize nameOk item = c1
  generalize decide (1 ≤ n ∧ n ≤ 20) = c2
  generalize decide (0 ≤ cur ∧ cur ≤ wrap64 (n - 1)) = c3
  generalize decide (0 ≤ first ∧ first ≤ 40000) = c4
  generalize decide (0 ≤ last ∧ last ≤ 40000) = c5
  generalize decide (1 ≤ least ∧ least ≤ 1000000) = c7
  cases c2 with
  | false => simp
  | true =>
  rw [if_pos rfl]
  cases c0 with
  | false => rfl
  | true =>
  rw [if_pos rfl, Bool.true_and]
  cases c1 with
  | false => rfl
  | true =>
  rw [if_pos rfl, Bool.true_and, Bool.true_and]
  cases c3 with
  | false => rfl
  | true =>
  rw [if_pos rfl, Bool.true_and]
  cases c4 with
  | false => rfl
  | true =>
  rw [if_pos rfl, Bool.true_and]
  cases c5 with
  | false => rfl
  | true =>
  rw [if_pos rfl, Bool.true_and]
  by_cases h6 : first > last
  · rw [if_pos h6, decide_eq_false (by omega)]; rfl
  rw [if_neg h6, decide_eq_true (show first ≤ last by omega), Bool.true_and]
  cases c7 with
  | false => rfl
  | true =>
  rw [if_pos rfl, Bool.true_and]
  by_cases h8 : (l.length : Int) < 1
  · rw [if_pos h8, decide_eq_false (by omega)]; rfl
  · rw [if_neg h8]
    by_cases h9 : (l.length : Int) > 12
    · rw [decide_eq_true h9, decide_eq_false (by omega), kt]; rfl
    · rw [decide_eq_false h9, decide_eq_true (show 1 ≤ (l.length : Int) ∧ (l.length : Int) ≤ 12 by omega), kf]; rfl
theorem szOffer_spec (who item : ByteArray) (cur first last least : Int) (l : List S93) (h1 : who.size ≤ 9223372036854775807) (h2 : item.size ≤ 9223372036854775807) (hl : l.length ≤ 9223372036854775807) :
    ∃ r, laws_szOffer.f who item cur first last least l 1048576 = some r ∧ (r < 0 ∨ (0 ≤ r ∧ who.size ≤ 1048576 ∧ item.size ≤ 1048576 ∧ l.length ≤ 1048576)) := by
  unfold laws_szOffer.f
  rw [w64 (x := 1048576 - (who.size : Int)) (by omega) (by omega)]
  by_cases a : 1048576 - (who.size : Int) < 0
  · exact ⟨_, if_pos a, .inl (by omega)⟩
  rw [if_neg a, w64 (x := 1048576 - (who.size : Int) - (item.size : Int)) (by omega) (by omega)]
  by_cases b : 1048576 - (who.size : Int) - (item.size : Int) < 0
  · exact ⟨_, if_pos b, .inl (by omega)⟩
  rw [if_neg b]
  unfold laws_szScaleS.f
  rw [w64 (x := 1048576 - (who.size : Int) - (item.size : Int) - (l.length : Int)) (by omega) (by omega)]
  by_cases c : 1048576 - (who.size : Int) - (item.size : Int) - (l.length : Int) < 0
  · rw [if_pos c]; exact ⟨_, rfl, .inl (by omega)⟩
  · rw [if_neg c, Option.bind_some, if_neg c]; exact ⟨_, rfl, .inr ⟨by omega, by omega, by omega, by omega⟩⟩

theorem FnExactOfferOk : laws_FnExactOfferOk.Pure := by
  intro who item cur first last least l n h1 h2 _ _ _ _ ⟨hl, _⟩ _
  rw [maxLen_eq] at h1 h2 hl
  refine ⟨10000000, ?_⟩
  unfold laws_FnExactOfferOk.f
  obtain ⟨r, hr, hc⟩ := szOffer_spec who item cur first last least l h1 h2 hl
  rw [hr]
  simp only [Option.bind_some]
  rcases hc with hc | ⟨hc0, hw, hi, hc⟩
  · rw [if_pos hc]
  · have hm : (l.map cvScale).length = l.length := by simp
    rw [if_neg (by omega)]
    unfold laws_toOffer.f
    rw [toScaleS_eq l hc _ (by omega)]
    simp only [Option.bind_some]
    rw [offSpec_eq _ _ _ _ _ _ _ _ (by omega) hw hi _ (by omega), offImpl_eq _ _ _ _ _ _ _ _ (by omega) hw hi _ (by omega)]
    simp only [Option.bind_some]
    unfold laws_eqOffer.f
    rw [if_neg (by simp), if_pos rfl, if_pos rfl, if_pos rfl, if_pos rfl, if_pos rfl, if_pos rfl, eqScaleS_refl _ (by omega) _ (by omega)]
    rfl

end Go.Proofs.Ytdnfagcnojnmiaa.Pure
