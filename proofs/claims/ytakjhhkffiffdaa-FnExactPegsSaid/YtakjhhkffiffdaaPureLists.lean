/-
  The law's small functions at lists; what the reference and the program come to.
-/
import Derived.Test.YtakjhhkffiffdaaPure
set_option linter.unusedVariables false
set_option linter.unusedSimpArgs false
namespace Go.Proofs.Ytakjhhkffiffdaa
open Go.RowKit Go.Proofs.YtakjhhkffiffdaaW.PrintWords Go.Proofs.Ytakjhhkffiffdaa.PFnExactPegs

theorem toIntS_loop (l : List Int) (hl : l.length ≤ 35184372088832) : ∀ (d i k : Nat) (acc : List Int), i + d = l.length → d < k → acc.length = l.length → (∀ j, j < i → acc[j]? = l[j]?) → laws_toIntS.l0 k l acc (i : Int) = some l := by
  intro d
  induction d with
  | zero =>
    intro i k acc hi hk hl' ha
    obtain ⟨k, rfl⟩ : ∃ m, k = m + 1 := ⟨k - 1, by omega⟩
    simp only [laws_toIntS.l0]
    rw [if_neg (by omega)]
    congr 1
    apply List.ext_getElem?
    intro j
    by_cases hj : j < i
    · exact ha j hj
    · rw [List.getElem?_eq_none (by omega), List.getElem?_eq_none (by omega)]
  | succ d ih =>
    intro i k acc hi hk hl' ha
    obtain ⟨k, rfl⟩ : ∃ m, k = m + 1 := ⟨k - 1, by omega⟩
    have hlt : i < l.length := by omega
    simp only [laws_toIntS.l0]
    rw [if_pos (by omega), if_pos (by omega), if_pos (by omega), w64i hlt (by omega), rd_at hlt, Int.toNat_natCast]
    refine ih (i + 1) k _ (by omega) (by omega) (by simpa using hl') (fun j hj => ?_)
    rcases Nat.lt_succ_iff_lt_or_eq.1 hj with h | rfl
    · rw [List.getElem?_set_ne (by omega)]; exact ha j h
    · rw [List.getElem?_set_self (by omega), List.getElem?_eq_getElem hlt]
theorem toIntS_eq (l : List Int) (hl : l.length ≤ 35184372088832) (k : Nat) (hk : l.length < k) : laws_toIntS.f k l = some l := by
  unfold laws_toIntS.f
  rw [if_pos (by omega), if_pos (by omega)]
  exact toIntS_loop l hl l.length 0 k _ (by omega) hk (by simp) (fun j hj => by omega)

theorem eqIntS_refl (l : List Int) (hl : l.length ≤ 9223372036854775807) (k : Nat) (hk : l.length < k) : laws_eqIntS.f k l l = some true := by
  have key : ∀ (d i k : Nat), i + d = l.length → d < k → laws_eqIntS.l0 k l l (i : Int) = some true := by
    intro d
    induction d with
    | zero =>
      intro i k hi hk
      obtain ⟨k, rfl⟩ : ∃ m, k = m + 1 := ⟨k - 1, by omega⟩
      simp only [laws_eqIntS.l0]
      rw [if_neg (by omega)]
    | succ d ih =>
      intro i k hi hk
      obtain ⟨k, rfl⟩ : ∃ m, k = m + 1 := ⟨k - 1, by omega⟩
      simp only [laws_eqIntS.l0]
      rw [if_pos (by omega), if_pos (by omega), if_pos (by omega), if_pos trivial, w64i (show i < l.length by omega) (by omega)]
      exact ih (i + 1) k (by omega) (by omega)
  unfold laws_eqIntS.f
  rw [if_pos rfl]
  exact key l.length 0 k (by omega) hk

theorem eqPegS_refl (l : List S34) (hl : l.length ≤ 9223372036854775807) (k : Nat) (hk : l.length < k) : laws_eqPegS.f k l l = some true := by
  have key : ∀ (d i k : Nat), i + d = l.length → d < k → laws_eqPegS.l0 k l l (i : Int) = some true := by
    intro d
    induction d with
    | zero =>
      intro i k hi hk
      obtain ⟨k, rfl⟩ : ∃ m, k = m + 1 := ⟨k - 1, by omega⟩
      simp only [laws_eqPegS.l0]
      rw [if_neg (by omega)]
    | succ d ih =>
      intro i k hi hk
      obtain ⟨k, rfl⟩ : ∃ m, k = m + 1 := ⟨k - 1, by omega⟩
      have he : ∀ a b c : Int, laws_eqPeg.f a b c a b c = some true := fun a b c => by unfold laws_eqPeg.f; rw [if_pos rfl, if_pos rfl, if_pos rfl]
      simp only [laws_eqPegS.l0]
      rw [if_pos (by omega), if_pos (by omega), if_pos (by omega), he, Option.bind_some, if_pos rfl, w64i (show i < l.length by omega) (by omega)]
      exact ih (i + 1) k (by omega) (by omega)
  unfold laws_eqPegS.f
  rw [if_pos rfl]
  exact key l.length 0 k (by omega) hk

theorem markIntS_ex : ∀ (d i k : Nat) (l : List Int) (a : Int), i + d = l.length → d < k → 0 ≤ a → a + d ≤ 9223372036854775807 → l.length ≤ 9223372036854775807 → ∃ M, laws_markIntS.l0 k l a (i : Int) = some (a + d, M) := by
  intro d
  induction d with
  | zero =>
    intro i k l a hi hk h0 ha hl
    obtain ⟨k, rfl⟩ : ∃ m, k = m + 1 := ⟨k - 1, by omega⟩
    simp only [laws_markIntS.l0]
    rw [if_neg (by omega)]
    exact ⟨l, by simp⟩
  | succ d ih =>
    intro i k l a hi hk h0 ha hl
    obtain ⟨k, rfl⟩ : ∃ m, k = m + 1 := ⟨k - 1, by omega⟩
    simp only [laws_markIntS.l0]
    rw [if_pos (by omega), if_pos (by omega), w64i (show i < l.length by omega) (by omega), w64 (by omega) (by omega)]
    obtain ⟨M, hM⟩ := ih (i + 1) k (l.set (i : Int).toNat a) (a + 1) (by simp; omega) (by omega) (by omega) (by omega) (by simpa using hl)
    exact ⟨M, by rw [hM]; congr 2; omega⟩
theorem markIntS_eq (l : List Int) (a : Int) (ha : 0 ≤ a) (hb : a + l.length ≤ 9223372036854775807) (k : Nat) (hk : l.length < k) : ∃ M, laws_markIntS.f k l a = some (a + l.length, M) := by
  unfold laws_markIntS.f
  exact markIntS_ex l.length 0 k l a (by omega) hk ha hb (by omega)

theorem rdP_at {l : List S34} {i : Nat} (h : i < l.length) : rd_T34 l (i : Int) = l[i] := by
  unfold rd_T34
  rw [Int.toNat_natCast, List.getD_eq_getElem?_getD, List.getElem?_eq_getElem h]; rfl

theorem markPegS_loop (n : Nat) (hn : 1 + 3 * n ≤ 9223372036854775807) : ∀ (d i k : Nat) (l : List S34), i + d = n → d < k → l.length = n → (∀ j, j < i → l[j]? = some (⟨1 + 3 * j, 2 + 3 * j, 3 + 3 * j⟩ : S34)) →
    ∃ M, laws_markPegS.l0 k l (1 + 3 * (i : Int)) (i : Int) = some (1 + 3 * (n : Int), M) ∧ M.length = n ∧ ∀ j, j < n → M[j]? = some (⟨1 + 3 * j, 2 + 3 * j, 3 + 3 * j⟩ : S34) := by
  intro d
  induction d with
  | zero =>
    intro i k l hi hk hl hj
    obtain ⟨k, rfl⟩ : ∃ m, k = m + 1 := ⟨k - 1, by omega⟩
    simp only [laws_markPegS.l0]
    rw [if_neg (by omega)]
    obtain rfl : i = n := by omega
    exact ⟨l, rfl, hl, hj⟩
  | succ d ih =>
    intro i k l hi hk hl hj
    obtain ⟨k, rfl⟩ : ∃ m, k = m + 1 := ⟨k - 1, by omega⟩
    have hlt : i < l.length := by omega
    have e1 : wrap64 (1 + 3 * (i : Int) + 1) = 2 + 3 * (i : Int) := by rw [w64] <;> omega
    have e2 : wrap64 (2 + 3 * (i : Int) + 1) = 3 + 3 * (i : Int) := by rw [w64] <;> omega
    have e3 : wrap64 (3 + 3 * (i : Int) + 1) = 1 + 3 * ((i + 1 : Nat) : Int) := by rw [w64] <;> omega
    simp only [laws_markPegS.l0]
    rw [if_pos (by omega), if_pos (by omega)]
    simp only [Option.bind_some, e1, e2, e3, Int.toNat_natCast]
    have r1 : ∀ p : S34, rd_T34 (l.set i p) (i : Int) = p := fun p => by rw [rdP_at (by simpa using hlt)]; simp
    have r2 : ∀ p q : S34, rd_T34 ((l.set i p).set i q) (i : Int) = q := fun p q => by rw [rdP_at (by simpa using hlt)]; simp
    rw [r2, r1, w64i hlt (by omega)]
    refine ih (i + 1) k _ (by omega) (by omega) (by simpa using hl) (fun j hjl => ?_)
    rcases Nat.lt_succ_iff_lt_or_eq.1 hjl with h | rfl
    · rw [List.set_set, List.set_set, List.getElem?_set_ne (by omega)]
      exact hj j h
    · rw [List.getElem?_set_self (by simpa using hlt)]
theorem markPegS_eq (l : List S34) (hl : l.length ≤ 1000000) (k : Nat) (hk : l.length < k) : ∃ M, laws_markPegS.f k l 1 = some (1 + 3 * (l.length : Int), M) ∧ M.length = l.length ∧ ∀ j, j < l.length → M[j]? = some (⟨1 + 3 * j, 2 + 3 * j, 3 + 3 * j⟩ : S34) := by
  unfold laws_markPegS.f
  have h := markPegS_loop l.length (by omega) l.length 0 k l (by omega) hk rfl (fun j hj => by omega)
  simpa using h
theorem heldPegS_eq (M : List S34) (n : Nat) (hn : n ≤ 1000000) (hl : M.length = n) (hm : ∀ j, j < n → M[j]? = some (⟨1 + 3 * j, 2 + 3 * j, 3 + 3 * j⟩ : S34)) (k : Nat) (hk : n < k) : laws_heldPegS.f k M 1 = some (1 + 3 * (n : Int)) := by
  have key : ∀ (d i k : Nat), i + d = n → d < k → laws_heldPegS.l0 k M (1 + 3 * (i : Int)) (i : Int) = some (1 + 3 * (n : Int)) := by
    intro d
    induction d with
    | zero =>
      intro i k hi hk
      obtain ⟨k, rfl⟩ : ∃ m, k = m + 1 := ⟨k - 1, by omega⟩
      simp only [laws_heldPegS.l0]
      rw [if_neg (by omega), show i = n by omega]
    | succ d ih =>
      intro i k hi hk
      obtain ⟨k, rfl⟩ : ∃ m, k = m + 1 := ⟨k - 1, by omega⟩
      have hlt : i < M.length := by omega
      have hx : rd_T34 M (i : Int) = ⟨1 + 3 * i, 2 + 3 * i, 3 + 3 * i⟩ := by
        rw [rdP_at hlt]
        have := hm i (by omega)
        rw [List.getElem?_eq_getElem hlt] at this
        exact Option.some.inj this
      have e1 : wrap64 (1 + 3 * (i : Int) + 1) = 2 + 3 * (i : Int) := by rw [w64] <;> omega
      have e2 : wrap64 (2 + 3 * (i : Int) + 1) = 3 + 3 * (i : Int) := by rw [w64] <;> omega
      have e3 : wrap64 (3 + 3 * (i : Int) + 1) = 1 + 3 * ((i + 1 : Nat) : Int) := by rw [w64] <;> omega
      simp only [laws_heldPegS.l0, hx, e1, e2, e3]
      rw [if_pos (by omega), if_pos (by omega), if_pos trivial, if_pos trivial, if_pos trivial, w64i hlt (by omega)]
      exact ih (i + 1) k (by omega) (by omega)
  unfold laws_heldPegS.f
  have := key n 0 k (by omega) hk
  simpa using this

/-! ### what both come to -/
/-- What impl.Pegs comes to, as its contract asks it. -/
inductive Res (ns os : List Int) (hv : Int) (k : Nat) : List S34 → Prop
  | n1 (h1 : impl_listOk.f k ns (ns.length : Int) = some false) : Res ns os hv k []
  | n2 (h1 : impl_listOk.f k ns (ns.length : Int) = some true) (h2 : impl_listOk.f k os (ns.length : Int) = some false) : Res ns os hv k []
  | n3 (h1 : impl_listOk.f k ns (ns.length : Int) = some true) (h2 : impl_listOk.f k os (ns.length : Int) = some true) (h3 : impl_quantity.f hv = some false) : Res ns os hv k []
  | y (h1 : impl_listOk.f k ns (ns.length : Int) = some true) (h2 : impl_listOk.f k os (ns.length : Int) = some true) (h3 : impl_quantity.f hv = some true) {out : List S34} {bad : Bool} (hpr : PR ns os 0 0 0 0 hv out bad) (hns : ns.length ≤ 1000) (hos : os.length ≤ 1000) (hol : out.length ≤ 100000) (hord : ∀ p ∈ out, p.f0 ≠ -2) : Res ns os hv k (if bad then [] else out)

theorem all_at {l : List Int} (h : l.all okq = true) : ∀ (i : Nat) (x : Int), l[i]? = some x → 0 ≤ x ∧ x ≤ 1000000 := by
  intro i x hx
  have := List.all_eq_true.1 h x (List.mem_of_getElem? hx)
  simpa [okq] using this

theorem both (ns os : List Int) (hv : Int) (hns : ns.length ≤ 4000000) (hos : os.length ≤ 4000000) : ∃ res : List S34, (∃ k, spec_Pegs.f k ns hv os = some res) ∧ res.length ≤ 100000 ∧ ∃ k, Res ns os hv k res := by
  have hk1 : ns.length + 1 < ns.length + os.length + 5 := by omega
  have hk2 : os.length + 1 < ns.length + os.length + 5 := by omega
  have hk3 : ns.length < ns.length + os.length + 5 := by omega
  have hk4 : os.length < ns.length + os.length + 5 := by omega
  generalize ns.length + os.length + 5 = k at hk1 hk2 hk3 hk4
  have l1 := listOk_eq ns hns ns.length k hk1
  have l2 := listOk_eq os hos ns.length k hk2
  have q := quantity_eq hv
  obtain ⟨k', rfl⟩ : ∃ m, k = m + 1 := ⟨k - 1, by omega⟩
  have s1 := l18_eq ns hns (k' + 1) hk3
  have s2 := l18_eq os hos (k' + 1) hk4
  have q2 := l12Qty_eq hv
  -- the reference, where it does not go on
  have no : ∀ b : Bool, b = true → spec_Pegs.j0 (k' + 1) ns hv os [] b = some [] := fun b hb => by simp only [spec_Pegs.j0, if_pos hb]
  by_cases c1 : (decide (1 ≤ ns.length ∧ ns.length ≤ 40) && ns.all okq) = true
  · have l1' : impl_listOk.f (k' + 1) ns (ns.length : Int) = some true := by rw [l1]; simpa using c1
    by_cases c2 : (decide (os.length = ns.length) && os.all okq) = true
    · simp only [Bool.and_eq_true, decide_eq_true_eq] at c1 c2
      have l2' : impl_listOk.f (k' + 1) os (ns.length : Int) = some true := by rw [l2]; simp [c1.1, c2.1, c2.2]
      have s1' : spec_l18List.f (k' + 1) ns = some true := by rw [s1]; simp [c1.1, c1.2]
      have s2' : spec_l18List.f (k' + 1) os = some true := by rw [s2, c2.1]; simp [c1.1, c2.2]
      by_cases c3 : 0 ≤ hv ∧ hv ≤ 1000000
      · have q' : impl_quantity.f hv = some true := by rw [q]; simp [c3]
        have q2' : spec_l12Qty.f hv = some true := by rw [q2]; simp [c3]
        obtain ⟨out, bad, hpr, ho, hord⟩ := PR_ex ns os (all_at c1.2) (all_at c2.2) _ 0 0 0 0 hv (Nat.le_refl _) (by omega) (by omega) c3.1 c3.2 (fun h => absurd rfl h) (fun h => by omega)
        have hol : out.length ≤ 100000 := by
          refine Nat.le_trans ho ?_
          simp only [meas]
          split <;> omega
        obtain ⟨k0, hk0⟩ := spec_PR c2.1 (by omega) hpr [] (by simp; omega) (by omega) (by omega)
        refine ⟨if bad then [] else out, ⟨k0 + k' + 2, ?_⟩, by cases bad <;> simp <;> omega, k' + 1, .y l1' l2' q' hpr (by omega) (by omega) hol hord⟩
        have s1'' := l18_eq ns hns (k0 + k' + 2) (by omega)
        have s2'' := l18_eq os hos (k0 + k' + 2) (by omega)
        have t1 : spec_l18List.f (k0 + k' + 2) ns = some true := by rw [s1'']; simp [c1.1, c1.2]
        have t2 : spec_l18List.f (k0 + k' + 2) os = some true := by rw [s2'', c2.1]; simp [c1.1, c2.2]
        unfold spec_Pegs.f
        rw [Option.bind_some, t1, Option.bind_some, if_pos rfl, t2, Option.bind_some, if_pos rfl, if_pos (by omega), q2', Option.bind_some]
        have e : k0 + k' + 2 = (k0 + k' + 1) + 1 := rfl
        rw [e]
        simp only [spec_Pegs.j0]
        rw [if_neg (by simp)]
        have := hk0 (k0 + k' + 1) (by omega)
        simpa [specAt] using this
      · have q' : impl_quantity.f hv = some false := by rw [q]; simp; omega
        have q2' : spec_l12Qty.f hv = some false := by rw [q2]; simp; omega
        refine ⟨[], ⟨k' + 1, ?_⟩, by simp, k' + 1, .n3 l1' l2' q'⟩
        unfold spec_Pegs.f
        rw [Option.bind_some, s1', Option.bind_some, if_pos rfl, s2', Option.bind_some, if_pos rfl, if_pos (by omega), q2', Option.bind_some]
        exact no (!false) rfl
    · simp only [Bool.and_eq_true, decide_eq_true_eq] at c1 c2
      have s1' : spec_l18List.f (k' + 1) ns = some true := by rw [s1]; simp [c1.1, c1.2]
      have l2' : impl_listOk.f (k' + 1) os (ns.length : Int) = some false := by
        rw [l2]
        have : ¬ ((decide (1 ≤ ns.length ∧ ns.length ≤ 40) && decide (os.length = ns.length) && os.all okq) = true) := fun h => c2 (by simp only [Bool.and_eq_true, decide_eq_true_eq] at h; exact ⟨h.1.2, h.2⟩)
        simp only [Bool.not_eq_true] at this
        rw [this]
      refine ⟨[], ⟨k' + 1, ?_⟩, by simp, k' + 1, .n2 l1' l2'⟩
      unfold spec_Pegs.f
      rw [Option.bind_some, s1', Option.bind_some, if_pos rfl, s2, Option.bind_some]
      by_cases c4 : (decide (1 ≤ os.length ∧ os.length ≤ 40) && os.all okq) = true
      · rw [c4, if_pos rfl]
        simp only [Bool.and_eq_true, decide_eq_true_eq] at c4
        rw [if_neg (fun h => c2 ⟨by omega, c4.2⟩), no _ rfl]
      · simp only [Bool.not_eq_true] at c4
        rw [c4, if_neg (by simp), no _ rfl]
  · have l1' : impl_listOk.f (k' + 1) ns (ns.length : Int) = some false := by
      rw [l1]
      simp only [Bool.not_eq_true] at c1
      simp only [decide_true, Bool.and_true]
      rw [c1]
    refine ⟨[], ⟨k' + 1, ?_⟩, by simp, k' + 1, .n1 l1'⟩
    unfold spec_Pegs.f
    simp only [Bool.not_eq_true] at c1
    rw [Option.bind_some, s1, c1, Option.bind_some, if_neg (by simp), no _ rfl]
end Go.Proofs.Ytakjhhkffiffdaa
