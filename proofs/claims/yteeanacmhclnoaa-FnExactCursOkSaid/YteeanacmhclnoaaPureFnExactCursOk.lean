/- The program's CursOk answers as the reference's at every list of currencies, which reads as before. Conditions: none. -/
import Derived.Test.YteeanacmhclnoaaPFnExactCursOkx0
import Derived.Test.YteeanacmhclnoaaPFnExactCursOkx1
import Derived.Test.YteeanacmhclnoaaPFnExactCursOkx2
import Derived.Test.YteeanacmhclnoaaPFnExactCursOkx3
import Derived.Test.YteeanacmhclnoaaPFnExactCursOkx4
import Derived.Test.YteeanacmhclnoaaPFnExactCursOkx5
import Derived.Test.YteeanacmhclnoaaPureAid
import Derived.Test.YteeanacmhclnoaaWMore
namespace Go.Proofs.Yteeanacmhclnoaa.Pure
open Go Go.RowKit Go.Proofs.Yteeanacmhclnoaa.PFnExactCursOk Go.Proofs.YteeanacmhclnoaaW.PrintWords Go.Proofs.YteeanacmhclnoaaW.PrintLast Go.Proofs.Yteeanacmhclnoaa.Aid
set_option linter.unusedVariables false
set_option linter.unusedSimpArgs false
set_option maxRecDepth 100000
set_option maxHeartbeats 4000000
/-- The one pure statement of the law. -/
def laws_FnExactCursOk.Pure : Prop := ∀ (l0 : List S47), (l0.length ≤ maxLen ∧ ∀ x ∈ l0, (x.f0.size ≤ maxLen ∧ (Lit.int .i64 x.f1).wf = true ∧ (Lit.int .i64 x.f2).wf = true)) → ∃ k, laws_FnExactCursOk.f k l0 = some true
def cvCur (x : S47) : S48 := ⟨x.f0,x.f1,x.f2⟩
theorem toCurS_eq (l : List S47) (hl : l.length ≤ 1048576) (k : Nat) (hk : l.length < k) : laws_toCurS.f k l = some (l.map cvCur) := by
  unfold laws_toCurS.f
  rw [if_pos (by omega), if_pos (by omega)]
  refine loop_fill0 (fun k acc i => laws_toCurS.l0 k l acc i) l cvCur 0 ?_ ?_ k (by omega) _ (by simp)
  · intro k acc i x _ hi ha hx
    simp only [laws_toCurS.l0]
    rw [if_pos (by omega), if_pos (by omega), w64i hi (by omega)]
    unfold laws_toCur.f rd_T47
    rw [getD_of hx]
    simp only [Option.bind_some]
    rw [if_pos (by omega), Int.toNat_natCast]
    rfl
  · intro k acc _
    simp only [laws_toCurS.l0]
    rw [if_neg (by omega)]

theorem eqCurS_refl (l : List S48) (hl : l.length ≤ 9223372036854775807) (k : Nat) (hk : l.length < k) : laws_eqCurS.f k l l = some true := by
  unfold laws_eqCurS.f
  rw [if_pos rfl]
  rw [loop_scan0 (fun k i => laws_eqCurS.l0 k l l i) l.length 0 (fun _ => none) true ?_ ?_ ?_ k (by omega), scan_false _ _ (fun _ _ _ => rfl)]
  · intro k i r _ hi h
    cases h
  · intro k i _ hi h
    simp only [laws_eqCurS.l0]
    rw [if_pos (by omega), if_pos (by omega), if_pos (by omega), w64i hi (by omega)]
    simp only [laws_eqCur.f, Option.bind_some, if_true]
  · intro k _
    simp only [laws_eqCurS.l0]
    rw [if_neg (by omega)]

theorem szCur_spec (x : S47) (a : Int) (h0 : 0 ≤ a) (h1 : a ≤ 1048576) (hx : x.f0.size ≤ maxLen) : ∃ r, laws_szCur.f x.f0 x.f1 x.f2 a = some r ∧ (r < 0 ∨ (0 ≤ r ∧ r ≤ a ∧ (x.f0.size : Int) ≤ a)) := by
  have e : maxLen = 9223372036854775807 := maxLen_eq
  unfold laws_szCur.f
  rw [w64 (by omega) (by omega)]
  repeat' (first | (split; exact ⟨_, rfl, .inl (by omega)⟩) | rw [w64 (by omega) (by omega)])
  exact ⟨_, rfl, .inr (by omega)⟩
theorem szCurS_loop (l : List S47) (hl : l.length ≤ 9223372036854775807) (hx : ∀ x ∈ l, x.f0.size ≤ maxLen) : ∀ (d i k : Nat) (a : Int), i + d = l.length → d < k → 0 ≤ a → a ≤ 1048576 → (∀ j x, j < i → l[j]? = some x → x.f0.size ≤ 1048576) →
    ∃ r, laws_szCurS.l0 k l a (i : Int) = some r ∧ (r < 0 ∨ (0 ≤ r ∧ ∀ j x, j < l.length → l[j]? = some x → x.f0.size ≤ 1048576)) := by
  intro d
  induction d with
  | zero =>
    intro i k a hi hk h0 h1 hs
    obtain ⟨k, rfl⟩ : ∃ m, k = m + 1 := ⟨k - 1, by omega⟩
    simp only [laws_szCurS.l0]
    rw [if_neg (by omega)]
    exact ⟨a, rfl, .inr ⟨h0, fun j x hj => hs j x (by omega)⟩⟩
  | succ d ih =>
    intro i k a hi hk h0 h1 hs
    obtain ⟨k, rfl⟩ : ∃ m, k = m + 1 := ⟨k - 1, by omega⟩
    simp only [laws_szCurS.l0]
    have hli : i < l.length := by omega
    have hxi : l[i]? = some (l[i]'hli) := List.getElem?_eq_getElem hli
    rw [if_pos (by omega), if_pos (by omega), w64i hli hl]
    unfold rd_T47
    rw [getD_of hxi]
    obtain ⟨r, hr, hc⟩ := szCur_spec (l[i]'hli) a h0 h1 (hx _ (List.getElem_mem hli))
    rw [hr]
    simp only [Option.bind_some]
    rcases hc with hc | ⟨hc0, hc1, hc2⟩
    · rw [if_pos hc]; exact ⟨_, rfl, .inl (by omega)⟩
    · rw [if_neg (by omega)]
      refine ih (i + 1) k r (by omega) (by omega) hc0 (by omega) (fun j x hj hjx => ?_)
      rcases Nat.lt_succ_iff_lt_or_eq.1 hj with h | rfl
      · exact hs j x h hjx
      · rw [hxi] at hjx
        obtain rfl := Option.some.inj hjx
        omega
theorem szCurS_spec (l : List S47) (hl : l.length ≤ 9223372036854775807) (hx : ∀ x ∈ l, x.f0.size ≤ maxLen) (k : Nat) (hk : l.length < k) :
    ∃ r, laws_szCurS.f k l 1048576 = some r ∧ (r < 0 ∨ (0 ≤ r ∧ l.length ≤ 1048576 ∧ ∀ x ∈ l, x.f0.size ≤ 1048576)) := by
  unfold laws_szCurS.f
  rw [w64 (by omega) (by omega)]
  by_cases h : (1048576 - (l.length : Int)) < 0
  · exact ⟨_, if_pos h, .inl (by omega)⟩
  · rw [if_neg h]
    obtain ⟨r, hr, hc⟩ := szCurS_loop l hl hx l.length 0 k (1048576 - (l.length : Int)) (by omega) hk (by omega) (by omega) (fun j x hj => by omega)
    refine ⟨r, hr, ?_⟩
    rcases hc with hc | ⟨hc0, hc1⟩
    · exact .inl hc
    · refine .inr ⟨hc0, by omega, fun x hxm => ?_⟩
      obtain ⟨j, hj, rfl⟩ := List.getElem_of_mem hxm
      exact hc1 j _ hj (List.getElem?_eq_getElem hj)

def nameB (b : Int) : Bool := decide ((b ≥ 97 ∧ b ≤ 122) ∨ (b ≥ 65 ∧ b ≤ 90) ∨ (b ≥ 48 ∧ b ≤ 57) ∨ b = 45 ∨ b = 95 ∨ b = 46)
theorem nameByte_eq (b : Int) : impl_nameByte.f b = some (nameB b) := by
  by_cases hb : nameB b = true
  · have h := hb
    unfold nameB at h
    rw [decide_eq_true_eq] at h
    rw [hb]
    unfold impl_nameByte.f
    repeat' split
    all_goals first | rfl | (exfalso; omega) | (congr 1; rw [beq_iff_eq]; omega)
  · have h := hb
    unfold nameB at h
    rw [decide_eq_true_eq] at h
    rw [Bool.not_eq_true] at hb
    rw [hb]
    unfold impl_nameByte.f
    repeat' split
    all_goals first | rfl | (exfalso; omega) | (congr 1; rw [beq_eq_false_iff_ne]; omega)
def nameStop (s : ByteArray) (i : Nat) : Option Bool := if nameB (bt s i) = true then none else some false
theorem nameSpec_step (k : Nat) (s : ByteArray) (i : Nat) (hi : i < s.size) (hs : s.size ≤ 9223372036854775807) :
    spec_NameOk.l0 (k + 1) s (i : Int) = if nameB (bt s i) = true then spec_NameOk.l0 k s ((i + 1 : Nat) : Int) else some false := by
  simp only [spec_NameOk.l0]
  rw [if_pos (by omega), if_pos (by omega), w64i hi hs]
  generalize bt s (i : Int) = b
  generalize spec_NameOk.l0 k s ((i + 1 : Nat) : Int) = X
  by_cases hb : nameB b = true
  · rw [if_pos hb]
    unfold nameB at hb
    rw [decide_eq_true_eq] at hb
    repeat' split
    all_goals first | rfl | (exfalso; omega)
  · rw [if_neg hb]
    unfold nameB at hb
    rw [decide_eq_true_eq] at hb
    repeat' split
    all_goals first | rfl | (exfalso; omega)
theorem nameSpec_end (k : Nat) (s : ByteArray) : spec_NameOk.l0 (k + 1) s (s.size : Int) = some (decide (1 ≤ s.size ∧ s.size ≤ 20)) := by
  simp only [spec_NameOk.l0]
  rw [if_neg (by omega)]
  unfold spec_l1In.f
  by_cases h : (s.size : Int) ≥ 1
  · rw [if_pos h]; simp only [Option.bind_some]; congr 1; rw [decide_eq_decide]; omega
  · rw [if_neg h]; simp only [Option.bind_some]; congr 1; symm; rw [decide_eq_false_iff_not]; omega
theorem nameSpec_eq (s : ByteArray) (hs : s.size ≤ 9223372036854775807) (k : Nat) (hk : s.size < k) : spec_NameOk.f k s = some (scan (nameStop s) (decide (1 ≤ s.size ∧ s.size ≤ 20)) s.size 0) := by
  unfold spec_NameOk.f
  refine loop_scan0 (fun k i => spec_NameOk.l0 k s i) s.size 0 (nameStop s) _ ?_ ?_ ?_ k (by omega)
  · intro k i r _ hi h
    rw [nameSpec_step k s i hi hs]
    unfold nameStop at h
    split at h
    · cases h
    · rename_i hb; rw [if_neg hb]; exact h
  · intro k i _ hi h
    rw [nameSpec_step k s i hi hs]
    unfold nameStop at h
    split at h
    · rename_i hb; rw [if_pos hb]
    · cases h
  · intro k _; exact nameSpec_end k s
theorem nameImpl_step (k : Nat) (s : ByteArray) (i : Nat) (hi : i < s.size) (hs : s.size ≤ 9223372036854775807) :
    impl_NameOk.l0 (k + 1) s (i : Int) = if nameB (bt s i) = true then impl_NameOk.l0 k s ((i + 1 : Nat) : Int) else some false := by
  simp only [impl_NameOk.l0]
  rw [if_pos (by omega), if_pos (by omega), w64i hi hs, nameByte_eq]
  rfl
theorem nameImpl_loop (s : ByteArray) (hs : s.size ≤ 9223372036854775807) (k : Nat) (hk : s.size < k) : impl_NameOk.l0 k s 0 = some (scan (nameStop s) true s.size 0) := by
  refine loop_scan0 (fun k i => impl_NameOk.l0 k s i) s.size 0 (nameStop s) _ ?_ ?_ ?_ k (by omega)
  · intro k i r _ hi h
    rw [nameImpl_step k s i hi hs]
    unfold nameStop at h
    split at h
    · cases h
    · rename_i hb; rw [if_neg hb]; exact h
  · intro k i _ hi h
    rw [nameImpl_step k s i hi hs]
    unfold nameStop at h
    split at h
    · rename_i hb; rw [if_pos hb]
    · cases h
  · intro k _
    simp only [impl_NameOk.l0]
    rw [if_neg (by omega)]
/-- What a name is. -/
def nameOk (s : ByteArray) : Bool := decide (1 ≤ s.size ∧ s.size ≤ 20) && scan (nameStop s) true s.size 0
theorem nameSpec (s : ByteArray) (hs : s.size ≤ 9223372036854775807) (k : Nat) (hk : s.size < k) : spec_NameOk.f k s = some (nameOk s) := by
  rw [nameSpec_eq s hs k hk]
  congr 1
  unfold nameOk
  by_cases h : 1 ≤ s.size ∧ s.size ≤ 20
  · rw [decide_eq_true h, Bool.true_and]
  · rw [decide_eq_false h, Bool.false_and]
    rcases scan_cases (nameStop s) false s.size 0 with ⟨j, r, _, _, h3, _, h5⟩ | ⟨_, h2⟩
    · rw [h5]
      unfold nameStop at h3
      split at h3
      · cases h3
      · exact (Option.some.inj h3).symm
    · exact h2
theorem nameImpl (s : ByteArray) (hs : s.size ≤ 9223372036854775807) (k : Nat) (hk : s.size + 1 < k) : impl_NameOk.f k s = some (nameOk s) := by
  obtain ⟨k, rfl⟩ : ∃ m, k = m + 1 := ⟨k - 1, by omega⟩
  unfold impl_NameOk.f nameOk
  by_cases h1 : (s.size : Int) < 1
  · rw [if_pos h1, decide_eq_false (by omega), Bool.false_and]
    rfl
  · rw [if_neg h1]
    simp only [impl_NameOk.j0]
    by_cases h2 : (s.size : Int) > 20
    · rw [if_pos (decide_eq_true h2), decide_eq_false (by omega), Bool.false_and]
    · rw [if_neg (by simpa using h2), nameImpl_loop s hs k (by omega), decide_eq_true (by omega), Bool.true_and]

theorem two_dec (a b : Prop) [Decidable a] [Decidable b] : (if a then some (decide b) else some false) = some (decide (a ∧ b)) := by
  by_cases h : a
  · rw [if_pos h]; congr 1; rw [decide_eq_decide]; exact ⟨fun hb => ⟨h, hb⟩, fun hb => hb.2⟩
  · rw [if_neg h]; congr 1; symm; rw [decide_eq_false_iff_not]; exact fun hb => h hb.1

theorem l1In_eq (a b c : Int) : spec_l1In.f a b c = some (decide (b ≤ a ∧ a ≤ c)) := by unfold spec_l1In.f; exact two_dec (a ≥ b) (a ≤ c)

theorem between_eq (a b c : Int) : impl_between.f a b c = some (decide (b ≤ a ∧ a ≤ c)) := by unfold impl_between.f; exact two_dec (a ≥ b) (a ≤ c)

theorem toList_iff (a b : ByteArray) : a.toList = b.toList ↔ a = b := by
  constructor
  · intro h
    have ha : a.toList = a.data.toList := ByteArray.toList_mk a.data.toList
    have hb : b.toList = b.data.toList := ByteArray.toList_mk b.data.toList
    rw [ha, hb] at h
    cases a; cases b
    congr 1
    exact Array.toList_inj.mp h
  · intro h; rw [h]

theorem rowsz (l : List S48) (hs : ∀ x ∈ l, x.f0.size ≤ 1048576) (i : Nat) (hi : i < l.length) : (rd_T48 l (i : Int)).f0.size ≤ 1048576 := by
  unfold rd_T48
  rw [getD_of (List.getElem?_eq_getElem hi)]
  exact hs _ (List.getElem_mem hi)
def curB (x : S48) : Bool := nameOk x.f0 && (decide (0 ≤ x.f1 ∧ x.f1 ≤ 6) && decide (1 ≤ x.f2 ∧ x.f2 ≤ 10000000))
theorem cur_spec (x : S48) (hz : x.f0.size ≤ 1048576) (k : Nat) (hk : 1048600 ≤ k) : spec_l3Cur.f k x.f0 x.f1 x.f2 = some (curB x) := by
  unfold spec_l3Cur.f curB
  rw [nameSpec _ (by omega) _ (by omega), l1In_eq, l1In_eq]
  cases nameOk x.f0 <;> cases decide (0 ≤ x.f1 ∧ x.f1 ≤ 6) <;> rfl
theorem cur_impl (x : S48) (hz : x.f0.size ≤ 1048576) (k : Nat) (hk : 1048600 ≤ k) : impl_curOk.f k x.f0 x.f1 x.f2 = some (curB x) := by
  unfold impl_curOk.f curB
  rw [nameImpl _ (by omega) _ (by omega), between_eq, between_eq]
  cases nameOk x.f0 <;> cases decide (0 ≤ x.f1 ∧ x.f1 ≤ 6) <;> rfl
def twice (l : List S48) (i : Nat) : Bool := anyIn (fun j => decide ((rd_T48 l (j : Int)).f0 = (rd_T48 l (i : Int)).f0)) i 0
theorem seen_eq (l : List S48) (i : Nat) (hi : i < l.length) (hl : l.length ≤ 1000) (hz : (rd_T48 l (i : Int)).f0.size ≤ 1048576) : impl_CursOk_seen.f l (i : Int) (rd_T48 l (i : Int)).f0 = some (twice l i) := by
  unfold impl_CursOk_seen.f
  rw [if_pos ⟨by rw [maxLen_eq]; omega, by omega, by omega, by omega⟩, Int.toNat_natCast]
  congr 1
  rw [Bool.eq_iff_iff, List.any_eq_true]
  unfold twice
  rw [anyIn_iff]
  constructor
  · rintro ⟨a, ha, he⟩
    obtain ⟨j, hj, rfl⟩ := List.getElem_of_mem ha
    rw [List.length_take] at hj
    refine ⟨j, by omega, by omega, ?_⟩
    rw [List.getElem_take] at he
    unfold rd_T48 at he ⊢
    rw [getD_of (List.getElem?_eq_getElem (show j < l.length by omega))]
    exact he
  · rintro ⟨j, _, hj, he⟩
    refine ⟨_, List.mem_take_iff_getElem.2 ⟨j, by omega, rfl⟩, ?_⟩
    unfold rd_T48 at he ⊢
    rw [getD_of (List.getElem?_eq_getElem (show j < l.length by omega))] at he
    exact he
def stopC (l : List S48) (i : Nat) : Option Bool := if (curB (rd_T48 l (i : Int)) && !twice l i) = true then none else some false
theorem spec_twice {l : List S48} {i : Nat} (hi : i < l.length) (hl : l.length ≤ 1000) (hs : ∀ x ∈ l, x.f0.size ≤ 1048576) : ∀ (d j k : Nat), j + d = i → 1048600 + d + 1 ≤ k →
    spec_CursOk.l1 k l (i : Int) (j : Int) = if anyIn (fun j => decide ((rd_T48 l (j : Int)).f0 = (rd_T48 l (i : Int)).f0)) d j = true then some false else if curB (rd_T48 l (i : Int)) = true then spec_CursOk.l0 (k - (d + 1)) l ((i + 1 : Nat) : Int) else some false := by
  intro d
  induction d with
  | zero =>
    intro j k hj hk
    obtain ⟨k, rfl⟩ : ∃ m, k = m + 1 := ⟨k - 1, by omega⟩
    rw [spec_CursOk.l1, if_neg (by omega), if_pos (by omega), if_pos (by omega), cur_spec _ (rowsz l hs i hi) _ (by omega), Option.bind_some, w64i hi (by omega)]
    rfl
  | succ d ih =>
    intro j k hj hk
    obtain ⟨k, rfl⟩ : ∃ m, k = m + 1 := ⟨k - 1, by omega⟩
    rw [spec_CursOk.l1, if_pos (by omega), if_pos (by omega), if_pos (by omega), if_pos (by omega), if_pos (by omega), w64i (show j < l.length by omega) (by omega), ih (j + 1) k (by omega) (by omega)]
    have e : k + 1 - (d + 1 + 1) = k - (d + 1) := by omega
    rw [e]
    show _ = if (decide ((rd_T48 l (j : Int)).f0 = (rd_T48 l (i : Int)).f0) || anyIn (fun j => decide ((rd_T48 l (j : Int)).f0 = (rd_T48 l (i : Int)).f0)) d (j + 1)) = true then _ else _
    by_cases h : (rd_T48 l (j : Int)).f0 = (rd_T48 l (i : Int)).f0
    · rw [if_pos ((toList_iff _ _).2 h), decide_eq_true h]; rfl
    · rw [if_neg (fun h2 => h ((toList_iff _ _).1 h2)), decide_eq_false h, Bool.false_or]
theorem spec_step (l : List S48) (hl : l.length ≤ 20) (hs : ∀ x ∈ l, x.f0.size ≤ 1048576) (k i : Nat) (hk : 1048600 ≤ k) (hi : i < l.length) :
    ∃ k', k ≤ k' ∧ spec_CursOk.l0 (k + 100) l (i : Int) = goOn (stopC l i) (spec_CursOk.l0 k' l ((i + 1 : Nat) : Int)) := by
  refine ⟨k + 99 - (i + 1), by omega, ?_⟩
  have h := spec_twice hi (by omega) hs i 0 (k + 99) (by omega) (by omega)
  rw [show ((0 : Nat) : Int) = 0 from rfl] at h
  rw [spec_CursOk.l0, if_pos (by omega), h]
  unfold stopC
  rw [goOn_if]
  show (if twice l i = true then some false else _) = _
  cases twice l i <;> cases curB (rd_T48 l (i : Int)) <;> simp
theorem impl_step (l : List S48) (hl : l.length ≤ 20) (hs : ∀ x ∈ l, x.f0.size ≤ 1048576) (k i : Nat) (hk : 1048600 ≤ k) (hi : i < l.length) :
    impl_CursOk.l0 (k + 1) l l (l.length : Int) (i : Int) = goOn (stopC l i) (impl_CursOk.l0 k l l (l.length : Int) ((i + 1 : Nat) : Int)) := by
  have hz := rowsz l hs i hi
  rw [impl_CursOk.l0, if_pos (by omega), if_pos (by omega), if_pos (by omega), cur_impl _ hz _ (by omega), Option.bind_some, seen_eq l i hi (by omega) hz, Option.bind_some, w64i hi (by omega)]
  unfold stopC
  rw [goOn_if]
  cases twice l i <;> cases curB (rd_T48 l (i : Int)) <;> simp
def cursB (l : List S48) : Bool := decide (1 ≤ l.length ∧ l.length ≤ 20) && scan (stopC l) true l.length 0
theorem curs_spec (l : List S48) (hs : ∀ x ∈ l, x.f0.size ≤ 1048576) (k : Nat) (hk : 3000000 ≤ k) : spec_CursOk.f k l = some (cursB l) := by
  unfold spec_CursOk.f cursB
  rw [l1In_eq, Option.bind_some]
  by_cases h : 1 ≤ l.length ∧ l.length ≤ 20
  · rw [decide_eq_true (show (1 : Int) ≤ (l.length : Int) ∧ (l.length : Int) ≤ 20 by omega), if_pos rfl, decide_eq_true h, Bool.true_and]
    refine loop_scanX0 (fun k i => spec_CursOk.l0 k l i) l.length 1048600 100 (stopC l) true ?_ ?_ k (by omega)
    · intro k i hk hi; exact spec_step l h.2 hs k i hk hi
    · intro k _
      show spec_CursOk.l0 (k + 100) l (l.length : Int) = some true
      rw [spec_CursOk.l0, if_neg (by omega)]
  · rw [decide_eq_false (show ¬ ((1 : Int) ≤ (l.length : Int) ∧ (l.length : Int) ≤ 20) by omega), if_neg (by simp), decide_eq_false h, Bool.false_and]
theorem curs_impl (l : List S48) (hs : ∀ x ∈ l, x.f0.size ≤ 1048576) (k : Nat) (hk : 3000000 ≤ k) : impl_CursOk.f k l = some (cursB l) := by
  obtain ⟨k, rfl⟩ : ∃ m, k = m + 1 := ⟨k - 1, by omega⟩
  have no : impl_CursOk.j0 (k + 1) l true = some false := by rw [impl_CursOk.j0, if_pos rfl]
  unfold impl_CursOk.f cursB
  by_cases h0 : l.length < 1
  · rw [if_pos (by omega), no, decide_eq_false (by omega), Bool.false_and]
  · rw [if_neg (by omega)]
    by_cases h1 : l.length > 20
    · rw [decide_eq_true (show (l.length : Int) > 20 by omega), no, decide_eq_false (by omega), Bool.false_and]
    · rw [decide_eq_false (show ¬ (l.length : Int) > 20 by omega), decide_eq_true (show 1 ≤ l.length ∧ l.length ≤ 20 by omega), Bool.true_and, impl_CursOk.j0, if_neg (by simp)]
      refine loop_scanM0 (fun k i => impl_CursOk.l0 k l l (l.length : Int) i) l.length 1048600 1 (stopC l) true ?_ ?_ k (by omega)
      · intro k i hk hi; exact impl_step l (by omega) hs k i hk hi
      · intro k _
        show impl_CursOk.l0 (k + 1) l l (l.length : Int) (l.length : Int) = some true
        rw [impl_CursOk.l0, if_neg (by omega)]
theorem FnExactCursOk : laws_FnExactCursOk.Pure := by
  intro l ⟨hl, hx⟩
  refine ⟨10000000 + l.length, ?_⟩
  unfold laws_FnExactCursOk.f
  obtain ⟨r, hr, hc⟩ := szCurS_spec l (by rw [maxLen_eq] at hl; exact hl) (fun x h => (hx x h).1) (10000000 + l.length) (by omega)
  rw [hr, Option.bind_some]
  rcases hc with hc | ⟨hc0, hc, hs⟩
  · rw [if_pos hc]
  · have hm : (l.map cvCur).length = l.length := by simp
    have hs' : ∀ x ∈ l.map cvCur, x.f0.size ≤ 1048576 := by
      intro x hx
      obtain ⟨y, hy, rfl⟩ := List.mem_map.1 hx
      exact hs y hy
    rw [if_neg (by omega), toCurS_eq l hc _ (by omega), Option.bind_some, curs_spec _ hs' _ (by omega), Option.bind_some, Option.bind_some, curs_impl _ hs' _ (by omega), Option.bind_some, if_neg (by simp), Option.bind_some, eqCurS_refl _ (by omega) _ (by omega)]
    rfl

end Go.Proofs.Yteeanacmhclnoaa.Pure
