/- The program's ShowChart tells the text that the reference's tells, at every chart; the chart reads as before. Conditions: none. -/
import Derived.Test.YteeanacmhclnoabPFnExactShowChartx0
import Derived.Test.YteeanacmhclnoabPFnExactShowChartx1
import Derived.Test.YteeanacmhclnoabPFnExactShowChartx2
import Derived.Test.YteeanacmhclnoabPFnExactShowChartx3
import Derived.Test.YteeanacmhclnoabPFnExactShowChartx4
import Derived.Test.YteeanacmhclnoabPFnExactShowChartx5
import Derived.Test.YteeanacmhclnoabPFnExactShowChartx6
import Derived.Test.YteeanacmhclnoabPFnExactShowChartx7
import Derived.Test.YteeanacmhclnoabPureAid
import Derived.Test.YteeanacmhclnoabWMore
namespace Go.Proofs.Yteeanacmhclnoab.Pure
open Go Go.RowKit Go.Proofs.Yteeanacmhclnoab.PFnExactShowChart Go.Proofs.YteeanacmhclnoabW.PrintWords Go.Proofs.YteeanacmhclnoabW.PrintLast Go.Proofs.Yteeanacmhclnoab.Aid
set_option linter.unusedVariables false
set_option linter.unusedSimpArgs false
set_option maxRecDepth 100000
set_option maxHeartbeats 4000000
/-- The one pure statement of the law. -/
def laws_FnExactShowChart.Pure : Prop := ∀ (l0 : List S51), (l0.length ≤ maxLen ∧ ∀ x ∈ l0, (x.f0.size ≤ maxLen ∧ (Lit.int .i64 x.f1).wf = true ∧ (Lit.int .i64 x.f2).wf = true)) → ∃ k, laws_FnExactShowChart.f k l0 = some true
def cvAccount (x : S51) : S53 := ⟨x.f0,x.f1,x.f2⟩
theorem toAccountS_eq (l : List S51) (hl : l.length ≤ 1048576) (k : Nat) (hk : l.length < k) : laws_toAccountS.f k l = some (l.map cvAccount) := by
  unfold laws_toAccountS.f
  rw [if_pos (by omega), if_pos (by omega)]
  refine loop_fill0 (fun k acc i => laws_toAccountS.l0 k l acc i) l cvAccount 0 ?_ ?_ k (by omega) _ (by simp)
  · intro k acc i x _ hi ha hx
    simp only [laws_toAccountS.l0]
    rw [if_pos (by omega), if_pos (by omega), w64i hi (by omega)]
    unfold laws_toAccount.f rd_T51
    rw [getD_of hx]
    simp only [Option.bind_some]
    rw [if_pos (by omega), Int.toNat_natCast]
    rfl
  · intro k acc _
    simp only [laws_toAccountS.l0]
    rw [if_neg (by omega)]

theorem eqAccountS_refl (l : List S53) (hl : l.length ≤ 9223372036854775807) (k : Nat) (hk : l.length < k) : laws_eqAccountS.f k l l = some true := by
  unfold laws_eqAccountS.f
  rw [if_pos rfl]
  rw [loop_scan0 (fun k i => laws_eqAccountS.l0 k l l i) l.length 0 (fun _ => none) true ?_ ?_ ?_ k (by omega), scan_false _ _ (fun _ _ _ => rfl)]
  · intro k i r _ hi h
    cases h
  · intro k i _ hi h
    simp only [laws_eqAccountS.l0]
    rw [if_pos (by omega), if_pos (by omega), if_pos (by omega), w64i hi (by omega)]
    simp only [laws_eqAccount.f, Option.bind_some, if_true]
  · intro k _
    simp only [laws_eqAccountS.l0]
    rw [if_neg (by omega)]

theorem szAccount_spec (x : S51) (a : Int) (h0 : 0 ≤ a) (h1 : a ≤ 1048576) (hx : x.f0.size ≤ maxLen) : ∃ r, laws_szAccount.f x.f0 x.f1 x.f2 a = some r ∧ (r < 0 ∨ (0 ≤ r ∧ r ≤ a ∧ (x.f0.size : Int) ≤ a)) := by
  have e : maxLen = 9223372036854775807 := maxLen_eq
  unfold laws_szAccount.f
  rw [w64 (by omega) (by omega)]
  repeat' (first | (split; exact ⟨_, rfl, .inl (by omega)⟩) | rw [w64 (by omega) (by omega)])
  exact ⟨_, rfl, .inr (by omega)⟩
theorem szAccountS_loop (l : List S51) (hl : l.length ≤ 9223372036854775807) (hx : ∀ x ∈ l, x.f0.size ≤ maxLen) : ∀ (d i k : Nat) (a : Int), i + d = l.length → d < k → 0 ≤ a → a ≤ 1048576 → (∀ j x, j < i → l[j]? = some x → x.f0.size ≤ 1048576) →
    ∃ r, laws_szAccountS.l0 k l a (i : Int) = some r ∧ (r < 0 ∨ (0 ≤ r ∧ ∀ j x, j < l.length → l[j]? = some x → x.f0.size ≤ 1048576)) := by
  intro d
  induction d with
  | zero =>
    intro i k a hi hk h0 h1 hs
    obtain ⟨k, rfl⟩ : ∃ m, k = m + 1 := ⟨k - 1, by omega⟩
    simp only [laws_szAccountS.l0]
    rw [if_neg (by omega)]
    exact ⟨a, rfl, .inr ⟨h0, fun j x hj => hs j x (by omega)⟩⟩
  | succ d ih =>
    intro i k a hi hk h0 h1 hs
    obtain ⟨k, rfl⟩ : ∃ m, k = m + 1 := ⟨k - 1, by omega⟩
    simp only [laws_szAccountS.l0]
    have hli : i < l.length := by omega
    have hxi : l[i]? = some (l[i]'hli) := List.getElem?_eq_getElem hli
    rw [if_pos (by omega), if_pos (by omega), w64i hli hl]
    unfold rd_T51
    rw [getD_of hxi]
    obtain ⟨r, hr, hc⟩ := szAccount_spec (l[i]'hli) a h0 h1 (hx _ (List.getElem_mem hli))
    rw [hr]
    simp only [Option.bind_some]
    rcases hc with hc | ⟨hc0, hc1, hc2⟩
    · rw [if_pos hc]; exact ⟨_, rfl, .inl (by omega)⟩
    · rw [if_neg (by omega)]
      refine ih (i + 1) k r (by omega) (by omega) hc0 (by omega) (fun j x hj hjx => ?_)
      rcases Nat.lt_succ_iff_lt_or_eq.1 hj with h | rfl
      · exact hs j x h hjx
      · rw [hxi] at hjx
        obtain rfl := Option.some.inj hjx
        omega
theorem szAccountS_spec (l : List S51) (hl : l.length ≤ 9223372036854775807) (hx : ∀ x ∈ l, x.f0.size ≤ maxLen) (k : Nat) (hk : l.length < k) :
    ∃ r, laws_szAccountS.f k l 1048576 = some r ∧ (r < 0 ∨ (0 ≤ r ∧ l.length ≤ 1048576 ∧ ∀ x ∈ l, x.f0.size ≤ 1048576)) := by
  unfold laws_szAccountS.f
  rw [w64 (by omega) (by omega)]
  by_cases h : (1048576 - (l.length : Int)) < 0
  · exact ⟨_, if_pos h, .inl (by omega)⟩
  · rw [if_neg h]
    obtain ⟨r, hr, hc⟩ := szAccountS_loop l hl hx l.length 0 k (1048576 - (l.length : Int)) (by omega) hk (by omega) (by omega) (fun j x hj => by omega)
    refine ⟨r, hr, ?_⟩
    rcases hc with hc | ⟨hc0, hc1⟩
    · exact .inl hc
    · refine .inr ⟨hc0, by omega, fun x hxm => ?_⟩
      obtain ⟨j, hj, rfl⟩ := List.getElem_of_mem hxm
      exact hc1 j _ hj (List.getElem?_eq_getElem hj)

def nameB (b : Int) : Bool := decide ((b ≥ 97 ∧ b ≤ 122) ∨ (b ≥ 65 ∧ b ≤ 90) ∨ (b ≥ 48 ∧ b ≤ 57) ∨ b = 45 ∨ b = 95 ∨ b = 46)
theorem nameByte_eq (b : Int) : impl_nameByte.f b = some (nameB b) := by
  by_cases hb : nameB b = true
  · have h := hb
    unfold nameB at h
    rw [decide_eq_true_eq] at h
    rw [hb]
    unfold impl_nameByte.f
    repeat' split
    all_goals first | rfl | (exfalso; omega) | (congr 1; rw [beq_iff_eq]; omega)
  · have h := hb
    unfold nameB at h
    rw [decide_eq_true_eq] at h
    rw [Bool.not_eq_true] at hb
    rw [hb]
    unfold impl_nameByte.f
    repeat' split
    all_goals first | rfl | (exfalso; omega) | (congr 1; rw [beq_eq_false_iff_ne]; omega)
def nameStop (s : ByteArray) (i : Nat) : Option Bool := if nameB (bt s i) = true then none else some false
theorem nameSpec_step (k : Nat) (s : ByteArray) (i : Nat) (hi : i < s.size) (hs : s.size ≤ 9223372036854775807) :
    spec_NameOk.l0 (k + 1) s (i : Int) = if nameB (bt s i) = true then spec_NameOk.l0 k s ((i + 1 : Nat) : Int) else some false := by
  simp only [spec_NameOk.l0]
  rw [if_pos (by omega), if_pos (by omega), w64i hi hs]
  generalize bt s (i : Int) = b
  generalize spec_NameOk.l0 k s ((i + 1 : Nat) : Int) = X
  by_cases hb : nameB b = true
  · rw [if_pos hb]
    unfold nameB at hb
    rw [decide_eq_true_eq] at hb
    repeat' split
    all_goals first | rfl | (exfalso; omega)
  · rw [if_neg hb]
    unfold nameB at hb
    rw [decide_eq_true_eq] at hb
    repeat' split
    all_goals first | rfl | (exfalso; omega)
theorem nameSpec_end (k : Nat) (s : ByteArray) : spec_NameOk.l0 (k + 1) s (s.size : Int) = some (decide (1 ≤ s.size ∧ s.size ≤ 20)) := by
  simp only [spec_NameOk.l0]
  rw [if_neg (by omega)]
  unfold spec_l1In.f
  by_cases h : (s.size : Int) ≥ 1
  · rw [if_pos h]; simp only [Option.bind_some]; congr 1; rw [decide_eq_decide]; omega
  · rw [if_neg h]; simp only [Option.bind_some]; congr 1; symm; rw [decide_eq_false_iff_not]; omega
theorem nameSpec_eq (s : ByteArray) (hs : s.size ≤ 9223372036854775807) (k : Nat) (hk : s.size < k) : spec_NameOk.f k s = some (scan (nameStop s) (decide (1 ≤ s.size ∧ s.size ≤ 20)) s.size 0) := by
  unfold spec_NameOk.f
  refine loop_scan0 (fun k i => spec_NameOk.l0 k s i) s.size 0 (nameStop s) _ ?_ ?_ ?_ k (by omega)
  · intro k i r _ hi h
    rw [nameSpec_step k s i hi hs]
    unfold nameStop at h
    split at h
    · cases h
    · rename_i hb; rw [if_neg hb]; exact h
  · intro k i _ hi h
    rw [nameSpec_step k s i hi hs]
    unfold nameStop at h
    split at h
    · rename_i hb; rw [if_pos hb]
    · cases h
  · intro k _; exact nameSpec_end k s
theorem nameImpl_step (k : Nat) (s : ByteArray) (i : Nat) (hi : i < s.size) (hs : s.size ≤ 9223372036854775807) :
    impl_NameOk.l0 (k + 1) s (i : Int) = if nameB (bt s i) = true then impl_NameOk.l0 k s ((i + 1 : Nat) : Int) else some false := by
  simp only [impl_NameOk.l0]
  rw [if_pos (by omega), if_pos (by omega), w64i hi hs, nameByte_eq]
  rfl
theorem nameImpl_loop (s : ByteArray) (hs : s.size ≤ 9223372036854775807) (k : Nat) (hk : s.size < k) : impl_NameOk.l0 k s 0 = some (scan (nameStop s) true s.size 0) := by
  refine loop_scan0 (fun k i => impl_NameOk.l0 k s i) s.size 0 (nameStop s) _ ?_ ?_ ?_ k (by omega)
  · intro k i r _ hi h
    rw [nameImpl_step k s i hi hs]
    unfold nameStop at h
    split at h
    · cases h
    · rename_i hb; rw [if_neg hb]; exact h
  · intro k i _ hi h
    rw [nameImpl_step k s i hi hs]
    unfold nameStop at h
    split at h
    · rename_i hb; rw [if_pos hb]
    · cases h
  · intro k _
    simp only [impl_NameOk.l0]
    rw [if_neg (by omega)]
/-- What a name is. -/
def nameOk (s : ByteArray) : Bool := decide (1 ≤ s.size ∧ s.size ≤ 20) && scan (nameStop s) true s.size 0
theorem nameSpec (s : ByteArray) (hs : s.size ≤ 9223372036854775807) (k : Nat) (hk : s.size < k) : spec_NameOk.f k s = some (nameOk s) := by
  rw [nameSpec_eq s hs k hk]
  congr 1
  unfold nameOk
  by_cases h : 1 ≤ s.size ∧ s.size ≤ 20
  · rw [decide_eq_true h, Bool.true_and]
  · rw [decide_eq_false h, Bool.false_and]
    rcases scan_cases (nameStop s) false s.size 0 with ⟨j, r, _, _, h3, _, h5⟩ | ⟨_, h2⟩
    · rw [h5]
      unfold nameStop at h3
      split at h3
      · cases h3
      · exact (Option.some.inj h3).symm
    · exact h2
theorem nameImpl (s : ByteArray) (hs : s.size ≤ 9223372036854775807) (k : Nat) (hk : s.size + 1 < k) : impl_NameOk.f k s = some (nameOk s) := by
  obtain ⟨k, rfl⟩ : ∃ m, k = m + 1 := ⟨k - 1, by omega⟩
  unfold impl_NameOk.f nameOk
  by_cases h1 : (s.size : Int) < 1
  · rw [if_pos h1, decide_eq_false (by omega), Bool.false_and]
    rfl
  · rw [if_neg h1]
    simp only [impl_NameOk.j0]
    by_cases h2 : (s.size : Int) > 20
    · rw [if_pos (decide_eq_true h2), decide_eq_false (by omega), Bool.false_and]
    · rw [if_neg (by simpa using h2), nameImpl_loop s hs k (by omega), decide_eq_true (by omega), Bool.true_and]

theorem two_dec (a b : Prop) [Decidable a] [Decidable b] : (if a then some (decide b) else some false) = some (decide (a ∧ b)) := by
  by_cases h : a
  · rw [if_pos h]; congr 1; rw [decide_eq_decide]; exact ⟨fun hb => ⟨h, hb⟩, fun hb => hb.2⟩
  · rw [if_neg h]; congr 1; symm; rw [decide_eq_false_iff_not]; exact fun hb => h hb.1

theorem l1In_eq (a b c : Int) : spec_l1In.f a b c = some (decide (b ≤ a ∧ a ≤ c)) := by unfold spec_l1In.f; exact two_dec (a ≥ b) (a ≤ c)

theorem between_eq (a b c : Int) : impl_between.f a b c = some (decide (b ≤ a ∧ a ≤ c)) := by unfold impl_between.f; exact two_dec (a ≥ b) (a ≤ c)

theorem rowsz (l : List S53) (hs : ∀ x ∈ l, x.f0.size ≤ 1048576) (i : Nat) (hi : i < l.length) : (rd_T53 l (i : Int)).f0.size ≤ 1048576 := by
  unfold rd_T53
  rw [getD_of (List.getElem?_eq_getElem hi)]
  exact hs _ (List.getElem_mem hi)
theorem kindOk_eq (x : Int) : impl_kindOk.f x = some (decide (1 ≤ x ∧ x ≤ 5)) := by unfold impl_kindOk.f; rw [between_eq, Option.bind_some]
theorem toList_iff (a b : ByteArray) : a.toList = b.toList ↔ a = b := by
  constructor
  · intro h
    have ha : a.toList = a.data.toList := ByteArray.toList_mk a.data.toList
    have hb : b.toList = b.data.toList := ByteArray.toList_mk b.data.toList
    rw [ha, hb] at h
    cases a; cases b
    congr 1
    exact Array.toList_inj.mp h
  · intro h; rw [h]
/-- What an account is part of. -/
def par (l : List S53) (x : Int) : Int := (rd_T53 l x).f1
def Good (l : List S53) (i : Nat) : Prop := ∀ j : Nat, j < i → -1 ≤ par l (j : Int) ∧ par l (j : Int) < (j : Int)
theorem Good.at {l : List S53} {i : Nat} (h : Good l i) (x : Int) (h0 : 0 ≤ x) (h1 : x < (i : Int)) : -1 ≤ par l x ∧ par l x < x := by
  obtain ⟨j, rfl⟩ : ∃ j : Nat, x = j := ⟨x.toNat, by omega⟩
  exact h j (by omega)
/-- Up from x, until p is met or nothing is left. -/
def climb (l : List S53) (p : Int) : Nat → Int → Int
  | 0, x => x
  | f + 1, x => if 0 ≤ x ∧ x ≠ p then climb l p f (par l x) else x
theorem climb_end {l : List S53} {i : Nat} (hg : Good l i) (p : Int) : ∀ (f : Nat) (x : Int), -1 ≤ x → x < (f : Int) → x < (i : Int) → (climb l p f x = p ∧ 0 ≤ p ∧ p < (i : Int)) ∨ climb l p f x = -1 := by
  intro f
  induction f with
  | zero => intro x h0 h1 _; exact .inr (by rw [climb]; omega)
  | succ f ih =>
    intro x h0 h1 h2
    rw [climb]
    by_cases h : 0 ≤ x ∧ x ≠ p
    · rw [if_pos h]
      have hp := hg.at x h.1 h2
      exact ih (par l x) hp.1 (by omega) (by omega)
    · rw [if_neg h]
      by_cases hx : 0 ≤ x
      · have : x = p := Classical.byContradiction (fun e => h ⟨hx, e⟩)
        subst this
        exact .inl ⟨rfl, hx, h2⟩
      · exact .inr (by omega)
def dpF (l : List S53) : Nat → Int → Nat
  | 0, _ => 0
  | f + 1, x => if 0 ≤ par l x then dpF l f (par l x) + 1 else 0
theorem dpF_le (l : List S53) : ∀ (f : Nat) (x : Int), dpF l f x ≤ f := by
  intro f
  induction f with
  | zero => intro x; exact Nat.le_refl _
  | succ f ih =>
    intro x
    rw [dpF]
    split
    · have := ih (par l x); omega
    · omega
theorem dpF_fuel {l : List S53} {i : Nat} (hg : Good l i) : ∀ (f f' : Nat) (x : Int), 0 ≤ x → x < (i : Int) → x < (f : Int) → x < (f' : Int) → dpF l f x = dpF l f' x := by
  intro f
  induction f with
  | zero => intro f' x h0 _ h1 _; omega
  | succ f ih =>
    intro f' x h0 h1 h2 h3
    obtain ⟨f', rfl⟩ : ∃ q, f' = q + 1 := ⟨f' - 1, by omega⟩
    have hp := hg.at x h0 h1
    rw [dpF, dpF]
    by_cases h : 0 ≤ par l x
    · rw [if_pos h, if_pos h, ih f' (par l x) h (by omega) (by omega) (by omega)]
    · rw [if_neg h, if_neg h]
/-- How many accounts the j-th is part of. -/
def dp (l : List S53) (j : Nat) : Nat := dpF l (j + 1) (j : Int)
theorem dp_le (l : List S53) (j : Nat) : dp l j ≤ j + 1 := dpF_le l (j + 1) _
theorem dp_up {l : List S53} {i : Nat} (hg : Good l (i + 1)) (hp : 0 ≤ par l (i : Int)) : dp l i = dp l (par l (i : Int)).toNat + 1 := by
  have h := hg i (by omega)
  unfold dp
  rw [dpF, if_pos hp]
  congr 1
  have e : (((par l (i : Int)).toNat : Nat) : Int) = par l (i : Int) := by omega
  rw [e]
  exact dpF_fuel hg i _ _ hp (by omega) (by omega) (by omega)
theorem dp_root {l : List S53} {i : Nat} (hp : ¬ 0 ≤ par l (i : Int)) : dp l i = 0 := by
  unfold dp
  rw [dpF, if_neg hp]
theorem deep_loop {l : List S53} {i : Nat} (hg : Good l i) (hi : i ≤ l.length) : ∀ (f k : Nat) (x : Int) (a : Nat), 0 ≤ x → x < (i : Int) → x < (f : Int) → f ≤ k → a + f ≤ 1000000 → spec_l4Deep.l0 k l x (a : Int) = some ((a + dpF l f x : Nat) : Int) := by
  intro f
  induction f with
  | zero => intro k x a h0 _ h1; omega
  | succ f ih =>
    intro k x a h0 h1 h2 hk ha
    obtain ⟨k, rfl⟩ : ∃ q, k = q + 1 := ⟨k - 1, by omega⟩
    have hp := hg.at x h0 h1
    rw [spec_l4Deep.l0, if_pos h0, if_pos (by omega), dpF]
    by_cases h : 0 ≤ par l x
    · rw [if_pos (show (rd_T53 l x).f1 ≥ 0 from h), if_pos h, show wrap64 ((a : Int) + 1) = ((a + 1 : Nat) : Int) by rw [w64 (by omega) (by omega)]; omega]
      have e := ih k (par l x) (a + 1) h (by omega) (by omega) (by omega) (by omega)
      rw [show par l x = (rd_T53 l x).f1 from rfl] at e
      rw [e]
      congr 2
      show a + 1 + dpF l f (par l x) = _
      omega
    · rw [if_neg (show ¬ (rd_T53 l x).f1 ≥ 0 from h), if_neg h, Nat.add_zero]
theorem deep_eq {l : List S53} {i : Nat} (hg : Good l (i + 1)) (hi : i < l.length) (hl : l.length ≤ 1000) (k : Nat) (hk : i + 1 ≤ k) : spec_l4Deep.f k l (i : Int) = some ((dp l i : Nat) : Int) := by
  unfold spec_l4Deep.f
  have := deep_loop hg (by omega) (i + 1) k (i : Int) 0 (by omega) (by omega) (by omega) hk (by omega)
  rw [show ((0 : Nat) : Int) = 0 from rfl, Nat.zero_add] at this
  exact this
def twice (l : List S53) (i : Nat) : Bool := anyIn (fun j => decide ((rd_T53 l (j : Int)).f0 = (rd_T53 l (i : Int)).f0)) i 0
def own (l : List S53) (i : Nat) : Int := climb l (par l (i : Int)) i ((i : Int) - 1)
def rowB (l : List S53) (i : Nat) : Bool := (nameOk (rd_T53 l (i : Int)).f0 && (decide (1 ≤ (rd_T53 l (i : Int)).f2 ∧ (rd_T53 l (i : Int)).f2 ≤ 5) && decide (-1 ≤ par l (i : Int) ∧ par l (i : Int) ≤ (i : Int) - 1))) && (!twice l i && (decide (par l (i : Int) < 0) || (decide (0 ≤ own l i) && (decide ((rd_T53 l (own l i)).f2 = (rd_T53 l (i : Int)).f2) && decide (dp l i ≤ 8)))))
theorem rowB_par {l : List S53} {i : Nat} (h : rowB l i = true) : -1 ≤ par l (i : Int) ∧ par l (i : Int) ≤ (i : Int) - 1 := by
  unfold rowB at h
  simp only [Bool.and_eq_true, decide_eq_true_eq] at h
  exact h.1.2.2
theorem Good.next {l : List S53} {i : Nat} (hg : Good l i) (h : -1 ≤ par l (i : Int) ∧ par l (i : Int) ≤ (i : Int) - 1) : Good l (i + 1) := by
  intro j hj
  rcases Nat.lt_succ_iff_lt_or_eq.1 hj with h1 | rfl
  · exact hg j h1
  · exact ⟨h.1, by omega⟩
/-- The spec's climb, and what stands behind it. -/
theorem spec_climb {l : List S53} {i : Nat} (hg : Good l (i + 1)) (hi : i < l.length) (hl : l.length ≤ 1000) (K : Nat) (hK : 2000 ≤ K) (c : ByteArray) : ∀ (f k : Nat) (x : Int), -1 ≤ x → x < (i : Int) → x < (f : Int) → K + f + 1 ≤ k →
    ∃ k', K ≤ k' ∧ spec_ChartOk.l2 k l (i : Int) x c (rd_T53 l (i : Int)).f1 (rd_T53 l (i : Int)).f2 = if (decide (0 ≤ climb l (par l (i : Int)) f x) && (decide ((rd_T53 l (climb l (par l (i : Int)) f x)).f2 = (rd_T53 l (i : Int)).f2) && decide (dp l i ≤ 8))) = true then spec_ChartOk.l0 k' l ((i + 1 : Nat) : Int) else some false := by
  have w1 : wrap64 ((i : Int) + 1) = ((i + 1 : Nat) : Int) := w64i hi (by omega)
  intro f
  induction f with
  | zero =>
    intro k x h0 h1 h2 hk
    obtain ⟨k, rfl⟩ : ∃ q, k = q + 1 := ⟨k - 1, by omega⟩
    refine ⟨k, by omega, ?_⟩
    rw [spec_ChartOk.l2, if_neg (by omega), if_pos (by omega), climb, decide_eq_false (show ¬ 0 ≤ x by omega)]
    rfl
  | succ f ih =>
    intro k x h0 h1 h2 hk
    obtain ⟨k, rfl⟩ : ∃ q, k = q + 1 := ⟨k - 1, by omega⟩
    rw [spec_ChartOk.l2, climb]
    by_cases hx : 0 ≤ x
    · rw [if_pos (show x ≥ 0 from hx)]
      by_cases hp : x = par l (i : Int)
      · have hp' : x = (rd_T53 l (i : Int)).f1 := hp
        refine ⟨k, by omega, ?_⟩
        rw [if_neg (show ¬ (0 ≤ x ∧ x ≠ par l (i : Int)) from fun h => h.2 hp), if_pos hp', if_neg (by omega), if_pos hx, if_pos (by omega), deep_eq hg hi hl k (by omega), Option.bind_some, decide_eq_true hx, w1]
        by_cases hk : (rd_T53 l x).f2 = (rd_T53 l (i : Int)).f2
        · rw [if_pos hk, decide_eq_true hk]
          by_cases hd : dp l i ≤ 8
          · rw [if_neg (by omega), decide_eq_true hd]; rfl
          · rw [if_pos (by omega), decide_eq_false hd]; rfl
        · rw [if_neg hk, decide_eq_false hk]; rfl
      · have hp' : ¬ x = (rd_T53 l (i : Int)).f1 := hp
        have hq := hg.at x hx (by omega)
        rw [if_neg hp', if_pos hx, if_pos (by omega), if_pos (show 0 ≤ x ∧ x ≠ par l (i : Int) from ⟨hx, hp⟩)]
        exact ih k (par l x) hq.1 (by omega) (by omega) (by omega)
    · refine ⟨k, by omega, ?_⟩
      rw [if_neg (show ¬ x ≥ 0 from hx), if_pos (by omega), if_neg (show ¬ (0 ≤ x ∧ x ≠ par l (i : Int)) from fun h => hx h.1), decide_eq_false hx]
      rfl
theorem spec_twice {l : List S53} {i : Nat} (hi : i < l.length) (hl : l.length ≤ 1000) (c : ByteArray) (p q : Int) : ∀ (d j k : Nat), j + d = i → d + 1 ≤ k →
    spec_ChartOk.l1 k l (i : Int) (j : Int) c p q = if anyIn (fun j => decide ((rd_T53 l (j : Int)).f0 = c)) d j = true then some false else if p < 0 then spec_ChartOk.l0 (k - (d + 1)) l ((i + 1 : Nat) : Int) else spec_ChartOk.l2 (k - (d + 1)) l (i : Int) ((i : Int) - 1) c p q := by
  intro d
  induction d with
  | zero =>
    intro j k hj hk
    obtain ⟨k, rfl⟩ : ∃ m, k = m + 1 := ⟨k - 1, by omega⟩
    rw [spec_ChartOk.l1, if_neg (by omega), w64i hi (by omega), w64 (x := (i : Int) - 1) (by omega) (by omega)]
    rfl
  | succ d ih =>
    intro j k hj hk
    obtain ⟨k, rfl⟩ : ∃ m, k = m + 1 := ⟨k - 1, by omega⟩
    rw [spec_ChartOk.l1, if_pos (by omega), if_pos (by omega), if_pos (by omega), w64i (show j < l.length by omega) (by omega), ih (j + 1) k (by omega) (by omega)]
    have e : k + 1 - (d + 1 + 1) = k - (d + 1) := by omega
    rw [e]
    show _ = if (decide ((rd_T53 l (j : Int)).f0 = c) || anyIn (fun j => decide ((rd_T53 l (j : Int)).f0 = c)) d (j + 1)) = true then _ else _
    by_cases h : (rd_T53 l (j : Int)).f0 = c
    · rw [if_pos ((toList_iff _ _).2 h), decide_eq_true h]; rfl
    · rw [if_neg (fun h2 => h ((toList_iff _ _).1 h2)), decide_eq_false h, Bool.false_or]
theorem spec_row {l : List S53} {i : Nat} (hg : Good l i) (hi : i < l.length) (hl : l.length ≤ 120) (hs : ∀ x ∈ l, x.f0.size ≤ 1048576) (k : Nat) (hk : 1048600 ≤ k) :
    ∃ k', k ≤ k' ∧ spec_ChartOk.l0 (k + 500) l (i : Int) = if rowB l i = true then spec_ChartOk.l0 k' l ((i + 1 : Nat) : Int) else some false := by
  have hz := rowsz l hs i hi
  have no : ∀ c p q, spec_ChartOk.j1 (k + 498 + 1) l (i : Int) true c p q = some false := by intro c p q; rw [spec_ChartOk.j1, if_pos rfl]
  have h1 : spec_ChartOk.l0 (k + 500) l (i : Int) = spec_ChartOk.j1 (k + 498 + 1) l (i : Int) (!(nameOk (rd_T53 l (i : Int)).f0 && (decide (1 ≤ (rd_T53 l (i : Int)).f2 ∧ (rd_T53 l (i : Int)).f2 ≤ 5) && decide (-1 ≤ par l (i : Int) ∧ par l (i : Int) ≤ (i : Int) - 1)))) (rd_T53 l (i : Int)).f0 (rd_T53 l (i : Int)).f1 (rd_T53 l (i : Int)).f2 := by
    rw [show k + 500 = (k + 498 + 1) + 1 by omega, spec_ChartOk.l0, if_pos (by omega), if_pos (by omega), nameSpec _ (by omega) _ (by omega), Option.bind_some, l1In_eq, Option.bind_some, l1In_eq, Option.bind_some, w64 (x := (i : Int) - 1) (by omega) (by omega)]
    show _ = spec_ChartOk.j1 (k + 498 + 1) l (i : Int) (!(nameOk (rd_T53 l (i : Int)).f0 && (decide (1 ≤ (rd_T53 l (i : Int)).f2 ∧ (rd_T53 l (i : Int)).f2 ≤ 5) && decide (-1 ≤ (rd_T53 l (i : Int)).f1 ∧ (rd_T53 l (i : Int)).f1 ≤ (i : Int) - 1)))) _ _ _
    cases nameOk (rd_T53 l (i : Int)).f0 <;> cases decide (1 ≤ (rd_T53 l (i : Int)).f2 ∧ (rd_T53 l (i : Int)).f2 ≤ 5) <;> rfl
  rw [h1]
  by_cases hb : (nameOk (rd_T53 l (i : Int)).f0 && (decide (1 ≤ (rd_T53 l (i : Int)).f2 ∧ (rd_T53 l (i : Int)).f2 ≤ 5) && decide (-1 ≤ par l (i : Int) ∧ par l (i : Int) ≤ (i : Int) - 1))) = true
  · have hpar : -1 ≤ par l (i : Int) ∧ par l (i : Int) ≤ (i : Int) - 1 := by
      simp only [Bool.and_eq_true, decide_eq_true_eq] at hb
      exact hb.2.2
    have hg' := hg.next hpar
    have ht := spec_twice hi (by omega) (rd_T53 l (i : Int)).f0 (rd_T53 l (i : Int)).f1 (rd_T53 l (i : Int)).f2 i 0 (k + 498) (by omega) (by omega)
    rw [show ((0 : Nat) : Int) = 0 from rfl] at ht
    rw [hb, show (!true) = false from rfl, spec_ChartOk.j1, if_neg (by simp), ht]
    obtain ⟨k', h2, h3⟩ := spec_climb hg' hi (by omega) (k + 100) (by omega) (rd_T53 l (i : Int)).f0 i (k + 498 - (i + 1)) ((i : Int) - 1) (by omega) (by omega) (by omega) (by omega)
    unfold rowB own
    rw [hb, Bool.true_and]
    show ∃ k', k ≤ k' ∧ (if twice l i = true then some false else _) = _
    cases htw : twice l i
    · rw [if_neg (by simp), show (!false) = true from rfl, Bool.true_and]
      by_cases hp : par l (i : Int) < 0
      · refine ⟨k + 498 - (i + 1), by omega, ?_⟩
        rw [if_pos (show (rd_T53 l (i : Int)).f1 < 0 from hp), decide_eq_true hp, Bool.true_or, if_pos rfl]
      · refine ⟨k', by omega, ?_⟩
        rw [if_neg (show ¬ (rd_T53 l (i : Int)).f1 < 0 from hp), decide_eq_false hp, Bool.false_or, h3]
    · refine ⟨k, by omega, ?_⟩
      rw [if_pos rfl, show (!true) = false from rfl, Bool.false_and, if_neg (by simp)]
  · rw [Bool.not_eq_true] at hb
    refine ⟨k, by omega, ?_⟩
    unfold rowB
    rw [hb, show (!false) = true from rfl, no, Bool.false_and, if_neg (by simp)]
def rowsB (l : List S53) : Nat → Nat → Bool
  | 0, _ => true
  | d + 1, i => rowB l i && rowsB l d (i + 1)
theorem spec_rows (l : List S53) (hl : l.length ≤ 120) (hs : ∀ x ∈ l, x.f0.size ≤ 1048576) : ∀ (d i k : Nat), i + d = l.length → Good l i → 1048600 + 500 * d + 500 ≤ k → spec_ChartOk.l0 k l (i : Int) = some (rowsB l d i) := by
  intro d
  induction d with
  | zero =>
    intro i k hi hg hk
    obtain ⟨k, rfl⟩ : ∃ m, k = m + 1 := ⟨k - 1, by omega⟩
    rw [spec_ChartOk.l0, if_neg (by omega)]
    rfl
  | succ d ih =>
    intro i k hi hg hk
    obtain ⟨k', h1, h2⟩ := spec_row hg (by omega) hl hs (k - 500) (by omega)
    rw [show k - 500 + 500 = k by omega] at h2
    rw [h2, rowsB]
    cases hb : rowB l i
    · rfl
    · rw [if_pos rfl, Bool.true_and]
      exact ih (i + 1) k' (by omega) (hg.next (rowB_par hb)) (by omega)
def chartB (l : List S53) : Bool := decide (1 ≤ l.length ∧ l.length ≤ 120) && rowsB l l.length 0
theorem Good.zero (l : List S53) : Good l 0 := fun j hj => by omega
theorem spec_chart (l : List S53) (hs : ∀ x ∈ l, x.f0.size ≤ 1048576) (k : Nat) (hk : 1200000 ≤ k) : spec_ChartOk.f k l = some (chartB l) := by
  unfold spec_ChartOk.f chartB
  rw [l1In_eq, Option.bind_some]
  by_cases h : 1 ≤ l.length ∧ l.length ≤ 120
  · rw [decide_eq_true (show (1 : Int) ≤ (l.length : Int) ∧ (l.length : Int) ≤ 120 by omega), if_pos rfl, decide_eq_true h, Bool.true_and]
    exact spec_rows l h.2 hs l.length 0 k (by omega) (Good.zero l) (by omega)
  · rw [decide_eq_false (show ¬ ((1 : Int) ≤ (l.length : Int) ∧ (l.length : Int) ≤ 120) by omega), if_neg (by simp), decide_eq_false h, Bool.false_and]
/-- The depths of the first i accounts, the others' places still empty. -/
def deepL (l : List S53) (i : Nat) : List Int := (List.range l.length).map (fun j => if j < i then ((dp l j : Nat) : Int) else 0)
theorem deepL_len (l : List S53) (i : Nat) : (deepL l i).length = l.length := by unfold deepL; simp
theorem deepL_zero (l : List S53) : List.replicate l.length (0 : Int) = deepL l 0 := by
  apply List.ext_getElem?
  intro j
  unfold deepL
  by_cases hj : j < l.length
  · simp [hj]
  · rw [List.getElem?_eq_none (by simpa using hj), List.getElem?_eq_none (by simpa using hj)]
theorem deepL_at (l : List S53) (i j : Nat) (hj : j < i) (hi : i ≤ l.length) : rd (deepL l i) (j : Int) = ((dp l j : Nat) : Int) := by
  unfold rd deepL
  rw [Int.toNat_natCast, List.getD_eq_getElem?_getD]
  have : j < l.length := by omega
  simp [this, hj]
theorem deepL_set (l : List S53) (i : Nat) (v : Int) (hi : i < l.length) (hv : v = ((dp l i : Nat) : Int)) : (deepL l i).set i v = deepL l (i + 1) := by
  apply List.ext_getElem?
  intro j
  rw [List.getElem?_set]
  by_cases e : i = j
  · subst e
    rw [if_pos rfl, deepL_len, if_pos hi]
    unfold deepL
    simp [hi, hv]
  · rw [if_neg e]
    unfold deepL
    by_cases hj : j < l.length
    · have h2 : (j < i + 1) ↔ (j < i) := by omega
      simp [hj, h2]
    · rw [List.getElem?_eq_none (by simpa using hj), List.getElem?_eq_none (by simpa using hj)]
theorem deepL_root (l : List S53) (i : Nat) (hi : i < l.length) (hv : dp l i = 0) : deepL l i = deepL l (i + 1) := by
  rw [← deepL_set l i 0 hi (by rw [hv]; rfl)]
  apply List.ext_getElem?
  intro j
  rw [List.getElem?_set]
  by_cases e : i = j
  · subst e
    rw [if_pos rfl, deepL_len, if_pos hi]
    unfold deepL
    simp [hi]
  · rw [if_neg e]
theorem impl_climb {l : List S53} {i : Nat} (hg : Good l i) (hi : i < l.length) (hl : l.length ≤ 1000) (K : Nat) (c : ByteArray) : ∀ (f k : Nat) (x : Int), -1 ≤ x → x < (i : Int) → x < (f : Int) → K + f + 1 ≤ k →
    ∃ k', K ≤ k' ∧ impl_depths.l1 k l (deepL l i) (i : Int) x l (l.length : Int) (i : Int) c (rd_T53 l (i : Int)).f1 (rd_T53 l (i : Int)).f2 = if (decide (0 ≤ climb l (par l (i : Int)) f x) && (decide ((rd_T53 l (climb l (par l (i : Int)) f x)).f2 = (rd_T53 l (i : Int)).f2) && decide (dp l i ≤ 8))) = true then impl_depths.l0 k' l (deepL l (i + 1)) l (l.length : Int) ((i + 1 : Nat) : Int) else some ([], false) := by
  have w1 : wrap64 ((i : Int) + 1) = ((i + 1 : Nat) : Int) := w64i hi (by omega)
  intro f
  induction f with
  | zero =>
    intro k x h0 h1 h2 hk
    obtain ⟨k, rfl⟩ : ∃ q, k = q + 1 := ⟨k - 1, by omega⟩
    refine ⟨k, by omega, ?_⟩
    rw [impl_depths.l1, if_neg (by omega), if_pos (by omega), climb, decide_eq_false (show ¬ 0 ≤ x by omega)]
    rfl
  | succ f ih =>
    intro k x h0 h1 h2 hk
    obtain ⟨k, rfl⟩ : ∃ q, k = q + 1 := ⟨k - 1, by omega⟩
    rw [impl_depths.l1, climb]
    by_cases hx : 0 ≤ x
    · rw [if_pos (show x ≥ 0 from hx)]
      by_cases hp : x = par l (i : Int)
      · have hp' : x = (rd_T53 l (i : Int)).f1 := hp
        refine ⟨k, by omega, ?_⟩
        have hg' : Good l (i + 1) := hg.next ⟨by omega, by omega⟩
        have hd := dp_up hg' (by omega)
        have hr : rd (deepL l i) x = ((dp l x.toNat : Nat) : Int) := by
          have := deepL_at l i x.toNat (by omega) (by omega)
          rwa [show ((x.toNat : Nat) : Int) = x by omega] at this
        rw [← hp] at hd
        rw [if_neg (show ¬ (0 ≤ x ∧ x ≠ par l (i : Int)) from fun h => h.2 hp), if_pos hp', if_neg (show ¬ x < 0 by omega), if_pos hx, if_pos (show x < (l.length : Int) by omega), deepL_len, if_pos (show x < (l.length : Int) by omega), hr, if_pos (show (0 : Int) ≤ (i : Int) by omega), if_pos (show (i : Int) < (l.length : Int) by omega), decide_eq_true hx]
        by_cases hk : (rd_T53 l x).f2 = (rd_T53 l (i : Int)).f2
        · rw [if_pos hk, decide_eq_true hk]
          by_cases hd8 : dp l i ≤ 8
          · have hlt : ¬ ((dp l x.toNat : Nat) : Int) ≥ 8 := by omega
            have hw : wrap64 (((dp l x.toNat : Nat) : Int) + 1) = ((dp l i : Nat) : Int) := by rw [w64 (by omega) (by omega)]; omega
            rw [if_neg hlt, decide_eq_true hd8, hw, Int.toNat_natCast, deepL_set l i _ hi rfl, w1]; rfl
          · rw [if_pos (by omega), decide_eq_false hd8]; rfl
        · rw [if_neg hk, decide_eq_false hk]; rfl
      · have hp' : ¬ x = (rd_T53 l (i : Int)).f1 := hp
        have hq := hg.at x hx (by omega)
        rw [if_neg hp', if_pos hx, if_pos (by omega), if_pos (show 0 ≤ x ∧ x ≠ par l (i : Int) from ⟨hx, hp⟩)]
        exact ih k (par l x) hq.1 (by omega) (by omega) (by omega)
    · refine ⟨k, by omega, ?_⟩
      rw [if_neg (show ¬ x ≥ 0 from hx), if_pos (by omega), if_neg (show ¬ (0 ≤ x ∧ x ≠ par l (i : Int)) from fun h => hx h.1), decide_eq_false hx]
      rfl
theorem seen_eq (l : List S53) (i : Nat) (hi : i < l.length) (hz : (rd_T53 l (i : Int)).f0.size ≤ 1048576) : impl_depths_seen.f l (i : Int) (rd_T53 l (i : Int)).f0 = some (0, twice l i) := by
  unfold impl_depths_seen.f
  rw [if_pos (by rw [maxLen_eq]; omega), Int.toNat_natCast]
  congr 2
  rw [Bool.eq_iff_iff, List.any_eq_true]
  unfold twice
  rw [anyIn_iff]
  constructor
  · rintro ⟨a, ha, he⟩
    obtain ⟨j, hj, rfl⟩ := List.getElem_of_mem ha
    rw [List.length_take] at hj
    refine ⟨j, by omega, by omega, ?_⟩
    rw [List.getElem_take] at he
    unfold rd_T53 at he ⊢
    rw [getD_of (List.getElem?_eq_getElem (show j < l.length by omega))]
    exact he
  · rintro ⟨j, _, hj, he⟩
    refine ⟨_, List.mem_take_iff_getElem.2 ⟨j, by omega, rfl⟩, ?_⟩
    unfold rd_T53 at he ⊢
    rw [getD_of (List.getElem?_eq_getElem (show j < l.length by omega))] at he
    exact he
theorem impl_row {l : List S53} {i : Nat} (hg : Good l i) (hi : i < l.length) (hl : l.length ≤ 120) (hs : ∀ x ∈ l, x.f0.size ≤ 1048576) (k : Nat) (hk : 1048600 ≤ k) :
    ∃ k', k ≤ k' ∧ impl_depths.l0 (k + 500) l (deepL l i) l (l.length : Int) (i : Int) = if rowB l i = true then impl_depths.l0 k' l (deepL l (i + 1)) l (l.length : Int) ((i + 1 : Nat) : Int) else some ([], false) := by
  have hz := rowsz l hs i hi
  have no : ∀ c p q, impl_depths.j2 (k + 498 + 1) l (deepL l i) (i : Int) l (l.length : Int) (i : Int) true c p q = some ([], false) := by intro c p q; rw [impl_depths.j2, if_pos rfl]
  have h1 : impl_depths.l0 (k + 500) l (deepL l i) l (l.length : Int) (i : Int) = impl_depths.j2 (k + 498 + 1) l (deepL l i) (i : Int) l (l.length : Int) (i : Int) (!(nameOk (rd_T53 l (i : Int)).f0 && (decide (1 ≤ (rd_T53 l (i : Int)).f2 ∧ (rd_T53 l (i : Int)).f2 ≤ 5) && !twice l i))) (rd_T53 l (i : Int)).f0 (rd_T53 l (i : Int)).f1 (rd_T53 l (i : Int)).f2 := by
    rw [show k + 500 = (k + 498 + 1) + 1 by omega, impl_depths.l0, if_pos (by omega), if_pos (by omega), if_pos (by omega), seen_eq l i hi hz, Option.bind_some, nameImpl _ (by omega) _ (by omega), Option.bind_some, kindOk_eq, Option.bind_some]
    cases twice l i <;> cases nameOk (rd_T53 l (i : Int)).f0 <;> cases decide (1 ≤ (rd_T53 l (i : Int)).f2 ∧ (rd_T53 l (i : Int)).f2 ≤ 5) <;> rfl
  rw [h1]
  obtain ⟨k', h2, h3⟩ := impl_climb hg hi (by omega) (k + 100) (rd_T53 l (i : Int)).f0 i (k + 498) ((i : Int) - 1) (by omega) (by omega) (by omega) (by omega)
  have hc := climb_end hg (par l (i : Int)) i ((i : Int) - 1) (by omega) (by omega) (by omega)
  unfold rowB own
  cases hn : nameOk (rd_T53 l (i : Int)).f0
  · exact ⟨k, by omega, by rw [Bool.false_and, show (!false) = true from rfl, no, Bool.false_and, Bool.false_and, if_neg (by simp)]⟩
  · cases hk2 : decide (1 ≤ (rd_T53 l (i : Int)).f2 ∧ (rd_T53 l (i : Int)).f2 ≤ 5)
    · exact ⟨k, by omega, by rw [Bool.false_and, Bool.true_and, show (!false) = true from rfl, no, Bool.false_and, Bool.true_and, Bool.false_and, if_neg (by simp)]⟩
    · cases ht : twice l i
      · rw [show (!(true && (true && !false))) = false from rfl, impl_depths.j2, if_neg (by simp), w64 (x := (i : Int) - 1) (by omega) (by omega), h3]
        rw [show (!false) = true from rfl]
        simp only [Bool.true_and]
        by_cases hm : par l (i : Int) = -1
        · refine ⟨k + 498, by omega, ?_⟩
          rw [if_pos (show (rd_T53 l (i : Int)).f1 = -1 from hm), decide_eq_true (show -1 ≤ par l (i : Int) ∧ par l (i : Int) ≤ (i : Int) - 1 by omega), decide_eq_true (show par l (i : Int) < 0 by omega), Bool.true_or, Bool.true_and, if_pos rfl, w64i hi (by omega), deepL_root l i hi (dp_root (by omega))]
        · refine ⟨k', by omega, ?_⟩
          rw [if_neg (show ¬ (rd_T53 l (i : Int)).f1 = -1 from hm)]
          rcases hc with ⟨hc1, hc2, hc3⟩ | hc
          · rw [decide_eq_true (show -1 ≤ par l (i : Int) ∧ par l (i : Int) ≤ (i : Int) - 1 by omega), decide_eq_false (show ¬ par l (i : Int) < 0 by omega), Bool.false_or, Bool.true_and]
          · rw [hc, decide_eq_false (show ¬ (0 : Int) ≤ -1 by omega), Bool.false_and, if_neg (by simp), if_neg ?_]
            rw [Bool.or_false, ← Bool.decide_and, decide_eq_true_eq]
            omega
      · exact ⟨k, by omega, by rw [show (!(true && (true && !true))) = true from rfl, no, show (!true) = false from rfl, Bool.false_and, Bool.and_false, if_neg (by simp)]⟩
theorem impl_rows (l : List S53) (hl : l.length ≤ 120) (hs : ∀ x ∈ l, x.f0.size ≤ 1048576) : ∀ (d i k : Nat), i + d = l.length → Good l i → 1048600 + 500 * d + 500 ≤ k → impl_depths.l0 k l (deepL l i) l (l.length : Int) (i : Int) = some (if rowsB l d i = true then (deepL l l.length, true) else ([], false)) := by
  intro d
  induction d with
  | zero =>
    intro i k hi hg hk
    obtain ⟨k, rfl⟩ : ∃ m, k = m + 1 := ⟨k - 1, by omega⟩
    obtain rfl : i = l.length := by omega
    rw [impl_depths.l0, if_neg (by omega), rowsB, if_pos rfl]
  | succ d ih =>
    intro i k hi hg hk
    obtain ⟨k', h1, h2⟩ := impl_row hg (by omega) hl hs (k - 500) (by omega)
    rw [show k - 500 + 500 = k by omega] at h2
    rw [h2, rowsB]
    cases hb : rowB l i
    · rfl
    · rw [if_pos rfl, Bool.true_and]
      exact ih (i + 1) k' (by omega) (hg.next (rowB_par hb)) (by omega)
theorem impl_depths_eq (l : List S53) (hs : ∀ x ∈ l, x.f0.size ≤ 1048576) (k : Nat) (hk : 1200000 ≤ k) : impl_depths.f k l = some (if chartB l = true then (deepL l l.length, true) else ([], false)) := by
  obtain ⟨k, rfl⟩ : ∃ m, k = m + 1 := ⟨k - 1, by omega⟩
  have no : impl_depths.j0 (k + 1) l true = some ([], false) := by rw [impl_depths.j0, if_pos rfl]
  unfold impl_depths.f chartB
  by_cases h0 : l.length < 1
  · rw [if_pos (by omega), no, decide_eq_false (by omega), Bool.false_and, if_neg (by simp)]
  · rw [if_neg (by omega)]
    by_cases h1 : l.length > 120
    · rw [decide_eq_true (show (l.length : Int) > 120 by omega), no, decide_eq_false (by omega), Bool.false_and, if_neg (by simp)]
    · rw [decide_eq_false (show ¬ (l.length : Int) > 120 by omega), decide_eq_true (show 1 ≤ l.length ∧ l.length ≤ 120 by omega), Bool.true_and, impl_depths.j0, if_neg (by simp), if_pos (by omega), if_pos (by omega), Int.toNat_natCast, deepL_zero]
      exact impl_rows l (by omega) hs l.length 0 k (by omega) (Good.zero l) (by omega)

theorem rowsB_all (l : List S53) : ∀ (d i : Nat), rowsB l d i = true → ∀ j, i ≤ j → j < i + d → rowB l j = true := by
  intro d
  induction d with
  | zero => intro i _ j h1 h2; omega
  | succ d ih =>
    intro i h j h1 h2
    rw [rowsB, Bool.and_eq_true] at h
    rcases Nat.eq_or_lt_of_le h1 with e | e
    · rw [← e]; exact h.1
    · exact ih (i + 1) h.2 j (by omega) (by omega)
theorem rowsB_good (l : List S53) (h : ∀ j, j < l.length → rowB l j = true) : Good l l.length := by
  intro j hj
  have := rowB_par (h j hj)
  omega
def spc : Nat → ByteArray
  | 0 => ⟨#[]⟩
  | m + 1 => spc m ++ ⟨#[32, 32]⟩
theorem spc_size : ∀ m, (spc m).size = 2 * m := by
  intro m
  induction m with
  | zero => rfl
  | succ m ih => rw [spc, ByteArray.size_append, ih]; show 2 * m + 2 = _; omega
def letter (k : Int) : ByteArray := (⟨#[65, 76, 69, 73, 88]⟩ : ByteArray).extract (k - 1).toNat k.toNat
theorem letter_same (k : Int) (h : 1 ≤ k ∧ k ≤ 5) : (⟨#[63, 65, 76, 69, 73, 88]⟩ : ByteArray).extract k.toNat (k + 1).toNat = letter k := by
  unfold letter
  rcases (by omega : k = 1 ∨ k = 2 ∨ k = 3 ∨ k = 4 ∨ k = 5) with rfl | rfl | rfl | rfl | rfl <;> rfl
theorem letter_size (k : Int) (h : 1 ≤ k ∧ k ≤ 5) : (letter k).size = 1 := by
  unfold letter
  rcases (by omega : k = 1 ∨ k = 2 ∨ k = 3 ∨ k = 4 ∨ k = 5) with rfl | rfl | rfl | rfl | rfl <;> rfl
/-- An account's line, behind what stands ahead of its code. -/
def tail (c : ByteArray) (k : Int) : ByteArray := ((c ++ (⟨#[32]⟩ : ByteArray)) ++ letter k) ++ (⟨#[10]⟩ : ByteArray)
theorem tail_size (c : ByteArray) (k : Int) (h : 1 ≤ k ∧ k ≤ 5) : (tail c k).size = c.size + 3 := by
  unfold tail
  rw [ByteArray.size_append, ByteArray.size_append, ByteArray.size_append, letter_size k h]
  rfl
theorem line_loop (c : ByteArray) (p q : Int) (hq : 1 ≤ q ∧ q ≤ 5) (hc : c.size ≤ 1048576) : ∀ (m a k : Nat), a + m ≤ 1000 → m < k → spec_l4Line.l0 k (m : Int) (spc a) c p q = some (spc (a + m) ++ tail c q) := by
  intro m
  induction m with
  | zero =>
    intro a k ha hk
    obtain ⟨k, rfl⟩ : ∃ z, k = z + 1 := ⟨k - 1, by omega⟩
    have s1 : (spc a).size = 2 * a := spc_size a
    have s2 : (spc a ++ c).size = 2 * a + c.size := by rw [ByteArray.size_append, s1]
    have s3 : ((spc a ++ c) ++ (⟨#[32]⟩ : ByteArray)).size = 2 * a + c.size + 1 := by rw [ByteArray.size_append, s2]; rfl
    have w1 : wrap64 (q - 1) = q - 1 := w64 (by omega) (by omega)
    have ls := letter_size q hq
    rw [spec_l4Line.l0, if_neg (by omega), w1]
    clear w1
    show (if (spc a).size + c.size ≤ 9223372036854775807 then (if (spc a ++ c).size + 1 ≤ 9223372036854775807 then (if 0 ≤ q - 1 then (if q - 1 ≤ q then (if q ≤ 5 then (if ((spc a ++ c) ++ (⟨#[32]⟩ : ByteArray)).size + (letter q).size ≤ 9223372036854775807 then (if (((spc a ++ c) ++ (⟨#[32]⟩ : ByteArray)) ++ letter q).size + 1 ≤ 9223372036854775807 then some ((((spc a ++ c) ++ (⟨#[32]⟩ : ByteArray)) ++ letter q) ++ (⟨#[10]⟩ : ByteArray)) else none) else none) else none) else none) else none) else none) else none) = _
    have s4 : (((spc a ++ c) ++ (⟨#[32]⟩ : ByteArray)) ++ letter q).size = 2 * a + c.size + 2 := by rw [ByteArray.size_append, s3, ls]
    rw [s1, s2, s3, s4, ls, if_pos (by omega), if_pos (by omega), if_pos (by omega), if_pos (by omega), if_pos (by omega), if_pos (by omega), if_pos (by omega)]
    congr 1
    unfold tail
    rw [Nat.add_zero, ByteArray.append_assoc, ByteArray.append_assoc, ByteArray.append_assoc, ByteArray.append_assoc, ByteArray.append_assoc]
  | succ m ih =>
    intro a k ha hk
    obtain ⟨k, rfl⟩ : ∃ z, k = z + 1 := ⟨k - 1, by omega⟩
    have s1 : (spc a).size = 2 * a := spc_size a
    rw [spec_l4Line.l0, if_pos (by omega), s1, if_pos (by omega), show wrap64 (((m + 1 : Nat) : Int) - 1) = (m : Int) by rw [w64 (by omega) (by omega)]; omega]
    have := ih (a + 1) k (by omega) (by omega)
    rw [show a + 1 + m = a + (m + 1) by omega] at this
    exact this
def shown (l : List S53) : Nat → ByteArray
  | 0 => ⟨#[]⟩
  | i + 1 => shown l i ++ (spc (dp l i) ++ tail (rd_T53 l (i : Int)).f0 (rd_T53 l (i : Int)).f2)
theorem shown_size (l : List S53) (hs : ∀ x ∈ l, x.f0.size ≤ 1048576) (hk : ∀ j, j < l.length → 1 ≤ (rd_T53 l (j : Int)).f2 ∧ (rd_T53 l (j : Int)).f2 ≤ 5) (hl : l.length ≤ 120) : ∀ i, i ≤ l.length → (shown l i).size ≤ 2000000 * i := by
  intro i
  induction i with
  | zero => intro _; show (0 : Nat) ≤ _; omega
  | succ i ih =>
    intro hi
    have := ih (by omega)
    have h1 := rowsz l hs i (by omega)
    have h2 := dp_le l i
    rw [shown, ByteArray.size_append, ByteArray.size_append, spc_size, tail_size _ _ (hk i (by omega))]
    omega
theorem spec_show_loop (l : List S53) (hs : ∀ x ∈ l, x.f0.size ≤ 1048576) (hb : chartB l = true) (hl : l.length ≤ 120) (hk : ∀ j, j < l.length → 1 ≤ (rd_T53 l (j : Int)).f2 ∧ (rd_T53 l (j : Int)).f2 ≤ 5) (hg : Good l l.length) : ∀ (d i k : Nat), i + d = l.length → 1300000 + 2 * d + 2 ≤ k → spec_ShowChart.l0 k l (shown l i) (i : Int) = some (shown l l.length) := by
  intro d
  induction d with
  | zero =>
    intro i k hi hk
    obtain ⟨k, rfl⟩ : ∃ z, k = z + 2 := ⟨k - 2, by omega⟩
    obtain rfl : i = l.length := by omega
    rw [spec_ShowChart.l0, if_neg (by omega), spec_ShowChart.j1, if_neg (by simp)]
  | succ d ih =>
    intro i k hi hkk
    obtain ⟨k, rfl⟩ : ∃ z, k = z + 2 := ⟨k - 2, by omega⟩
    have hi' : i < l.length := by omega
    have hsz := shown_size l hs hk hl i (by omega)
    have h1 := rowsz l hs i hi'
    have h2 := dp_le l i
    have hline := line_loop (rd_T53 l (i : Int)).f0 (rd_T53 l (i : Int)).f1 (rd_T53 l (i : Int)).f2 (hk i hi') h1 (dp l i) 0 k (by omega) (by omega)
    rw [Nat.zero_add] at hline
    have ht : (spc (dp l i) ++ tail (rd_T53 l (i : Int)).f0 (rd_T53 l (i : Int)).f2).size ≤ 2000000 := by
      rw [ByteArray.size_append, spc_size, tail_size _ _ (hk i hi')]; omega
    have hgi : Good l (i + 1) := fun q hq => hg q (by omega)
    rw [spec_ShowChart.l0, if_pos (by omega), spec_chart l hs _ (by omega), Option.bind_some, hb, spec_ShowChart.j1, if_pos rfl, if_pos (by omega), if_pos (by omega), deep_eq hgi hi' (by omega) k (by omega), Option.bind_some]
    unfold spec_l4Line.f
    rw [show (⟨#[]⟩ : ByteArray) = spc 0 from rfl, hline, Option.bind_some, if_pos (by omega), w64i hi' (by omega)]
    exact ih (i + 1) k (by omega) (by omega)
theorem impl_line (l : List S53) (i : Nat) (hi : i < l.length) (hl : l.length ≤ 120) (X : ByteArray) (c : ByteArray) (p q : Int) (hq : 1 ≤ q ∧ q ≤ 5) (hc : c.size ≤ 1048576) (hX : X.size ≤ 1000000000) : ∀ (m a k : Nat), a + m = dp l i → m < k →
    ∃ k', k ≤ k' + m + 1 ∧ impl_ShowChart.l1 k (deepL l l.length) (X ++ spc a) (i : Int) (a : Int) l (l.length : Int) (i : Int) c p q = impl_ShowChart.l0 k' (deepL l l.length) (X ++ (spc (dp l i) ++ tail c q)) l (l.length : Int) ((i + 1 : Nat) : Int) := by
  have hr := deepL_at l l.length i hi (Nat.le_refl _)
  have hd := dp_le l i
  intro m
  induction m with
  | zero =>
    intro a k ha hk
    obtain ⟨k, rfl⟩ : ∃ z, k = z + 1 := ⟨k - 1, by omega⟩
    obtain rfl : a = dp l i := by omega
    refine ⟨k, by omega, ?_⟩
    have ls := letter_size q hq
    have w1 : wrap64 (q + 1) = q + 1 := w64 (by omega) (by omega)
    have s0 : (X ++ spc (dp l i)).size = X.size + 2 * dp l i := by rw [ByteArray.size_append, spc_size]
    have s3 : (c ++ (⟨#[32]⟩ : ByteArray)).size = c.size + 1 := by rw [ByteArray.size_append]; rfl
    have s4 : ((c ++ (⟨#[32]⟩ : ByteArray)) ++ letter q).size = c.size + 2 := by rw [ByteArray.size_append, s3, ls]
    have s5 : (tail c q).size = c.size + 3 := tail_size c q hq
    rw [impl_ShowChart.l1, if_pos (by omega), deepL_len, if_pos (by omega), hr, if_neg (by omega), w1, letter_same q hq]
    clear w1
    rw [if_pos (by omega), if_pos (by omega), if_pos (by omega), if_pos (by omega), s3, ls, if_pos (by omega), s4, if_pos (by omega)]
    show (if (X ++ spc (dp l i)).size + (tail c q).size ≤ 9223372036854775807 then impl_ShowChart.l0 k (deepL l l.length) ((X ++ spc (dp l i)) ++ tail c q) l (l.length : Int) (wrap64 ((i : Int) + 1)) else none) = _
    rw [s0, s5, if_pos (by omega), ByteArray.append_assoc, w64i hi (by omega)]
  | succ m ih =>
    intro a k ha hk
    obtain ⟨k, rfl⟩ : ∃ z, k = z + 1 := ⟨k - 1, by omega⟩
    have s0 : (X ++ spc a).size = X.size + 2 * a := by rw [ByteArray.size_append, spc_size]
    obtain ⟨k', h1, h2⟩ := ih (a + 1) k (by omega) (by omega)
    refine ⟨k', by omega, ?_⟩
    rw [impl_ShowChart.l1, if_pos (by omega), deepL_len, if_pos (by omega), hr, if_pos (by omega), s0, if_pos (by omega), ByteArray.append_assoc, show wrap64 ((a : Int) + 1) = ((a + 1 : Nat) : Int) by rw [w64 (by omega) (by omega)]; omega]
    exact h2
theorem impl_show_loop (l : List S53) (hs : ∀ x ∈ l, x.f0.size ≤ 1048576) (hl : l.length ≤ 120) (hk : ∀ j, j < l.length → 1 ≤ (rd_T53 l (j : Int)).f2 ∧ (rd_T53 l (j : Int)).f2 ≤ 5) : ∀ (d i k : Nat), i + d = l.length → 400 * d + 2 ≤ k → impl_ShowChart.l0 k (deepL l l.length) (shown l i) l (l.length : Int) (i : Int) = some (shown l l.length) := by
  intro d
  induction d with
  | zero =>
    intro i k hi hk
    obtain ⟨k, rfl⟩ : ∃ z, k = z + 1 := ⟨k - 1, by omega⟩
    obtain rfl : i = l.length := by omega
    rw [impl_ShowChart.l0, if_neg (by omega)]
  | succ d ih =>
    intro i k hi hkk
    obtain ⟨k, rfl⟩ : ∃ z, k = z + 1 := ⟨k - 1, by omega⟩
    have hi' : i < l.length := by omega
    have hsz := shown_size l hs hk hl i (by omega)
    have h1 := rowsz l hs i hi'
    have h2 := dp_le l i
    obtain ⟨k', h3, h4⟩ := impl_line l i hi' hl (shown l i) (rd_T53 l (i : Int)).f0 (rd_T53 l (i : Int)).f1 (rd_T53 l (i : Int)).f2 (hk i hi') h1 (by omega) (dp l i) 0 k (by omega) (by omega)
    rw [show (((0 : Nat)) : Int) = 0 from rfl, show shown l i ++ spc 0 = shown l i from ByteArray.append_empty] at h4
    rw [impl_ShowChart.l0, if_pos (by omega), if_pos (by omega), if_pos (by omega), h4]
    exact ih (i + 1) k' (by omega) (by omega)
theorem show_both (l : List S53) (hs : ∀ x ∈ l, x.f0.size ≤ 1048576) (k : Nat) (hk : 3000000 ≤ k) : ∃ b, spec_ShowChart.f k l = some b ∧ impl_ShowChart.f k l = some b := by
  unfold spec_ShowChart.f impl_ShowChart.f
  rw [impl_depths_eq l hs k (by omega), Option.bind_some]
  cases hb : chartB l
  · refine ⟨⟨#[]⟩, ?_, by rw [if_neg (by simp)]⟩
    obtain ⟨k, rfl⟩ : ∃ q, k = q + 2 := ⟨k - 2, by omega⟩
    have no : spec_ShowChart.j1 (k + 1) l (⟨#[]⟩ : ByteArray) 0 false = some ⟨#[]⟩ := by rw [spec_ShowChart.j1, if_neg (by simp)]
    rw [spec_ShowChart.l0, spec_chart l hs _ (by omega), Option.bind_some, hb, no]
    split <;> rfl
  · have hb' := hb
    unfold chartB at hb'
    rw [Bool.and_eq_true, decide_eq_true_eq] at hb'
    obtain ⟨hl, hr⟩ := hb'
    have hall := rowsB_all l l.length 0 hr
    have hall' : ∀ j, j < l.length → rowB l j = true := fun j hj => hall j (by omega) (by omega)
    have hkd : ∀ j, j < l.length → 1 ≤ (rd_T53 l (j : Int)).f2 ∧ (rd_T53 l (j : Int)).f2 ≤ 5 := by
      intro j hj
      have h := hall' j hj
      unfold rowB at h
      simp only [Bool.and_eq_true, decide_eq_true_eq] at h
      exact h.1.2.1
    refine ⟨shown l l.length, ?_, ?_⟩
    · exact spec_show_loop l hs hb hl.2 hkd (rowsB_good l hall') l.length 0 k (by omega) (by omega)
    · rw [if_pos rfl, if_pos rfl]
      exact impl_show_loop l hs hl.2 hkd l.length 0 k (by omega) (by omega)
theorem FnExactShowChart : laws_FnExactShowChart.Pure := by
  intro l ⟨hl, hx⟩
  refine ⟨10000000 + l.length, ?_⟩
  unfold laws_FnExactShowChart.f
  obtain ⟨r, hr, hc⟩ := szAccountS_spec l (by rw [maxLen_eq] at hl; exact hl) (fun x h => (hx x h).1) (10000000 + l.length) (by omega)
  rw [hr, Option.bind_some]
  rcases hc with hc | ⟨hc0, hc, hs⟩
  · rw [if_pos hc]
  · have hm : (l.map cvAccount).length = l.length := by simp
    have hs' : ∀ x ∈ l.map cvAccount, x.f0.size ≤ 1048576 := by
      intro x hx
      obtain ⟨y, hy, rfl⟩ := List.mem_map.1 hx
      exact hs y hy
    obtain ⟨b, h1, h2⟩ := show_both (l.map cvAccount) hs' (10000000 + l.length) (by omega)
    rw [if_neg (by omega), toAccountS_eq l hc _ (by omega), Option.bind_some, h1, Option.bind_some, Option.bind_some, h2, Option.bind_some, if_pos rfl, Option.bind_some, eqAccountS_refl _ (by omega) _ (by omega)]
    rfl

end Go.Proofs.Yteeanacmhclnoab.Pure
