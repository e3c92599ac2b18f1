/- The program's NameOk answers as the reference's at every string. Conditions: none. -/
import Derived.Test.YtjmjhpdoealpaaaPFnExactNameOkx0
import Derived.Test.YtjmjhpdoealpaaaPFnExactNameOkx1
import Derived.Test.YtjmjhpdoealpaaaPFnExactNameOkx2
import Derived.Test.YtjmjhpdoealpaaaPureAid
import Derived.Test.YtjmjhpdoealpaaaWMore
namespace Go.Proofs.Ytjmjhpdoealpaaa.Pure
open Go Go.RowKit Go.Proofs.Ytjmjhpdoealpaaa.PFnExactNameOk Go.Proofs.YtjmjhpdoealpaaaW.PrintWords Go.Proofs.YtjmjhpdoealpaaaW.PrintLast Go.Proofs.Ytjmjhpdoealpaaa.Aid
set_option linter.unusedVariables false
set_option linter.unusedSimpArgs false
set_option maxRecDepth 100000
def nameB (b : Int) : Bool := decide ((b ≥ 97 ∧ b ≤ 122) ∨ (b ≥ 65 ∧ b ≤ 90) ∨ (b ≥ 48 ∧ b ≤ 57) ∨ b = 45 ∨ b = 95 ∨ b = 46)
theorem nameByte_eq (b : Int) : impl_nameByte.f b = some (nameB b) := by
  by_cases hb : nameB b = true
  · have h := hb
    unfold nameB at h
    rw [decide_eq_true_eq] at h
    rw [hb]
    unfold impl_nameByte.f
    repeat' split
    all_goals first | rfl | (exfalso; omega) | (congr 1; rw [beq_iff_eq]; omega)
  · have h := hb
    unfold nameB at h
    rw [decide_eq_true_eq] at h
    rw [Bool.not_eq_true] at hb
    rw [hb]
    unfold impl_nameByte.f
    repeat' split
    all_goals first | rfl | (exfalso; omega) | (congr 1; rw [beq_eq_false_iff_ne]; omega)
def nameStop (s : ByteArray) (i : Nat) : Option Bool := if nameB (bt s i) = true then none else some false
theorem nameSpec_step (k : Nat) (s : ByteArray) (i : Nat) (hi : i < s.size) (hs : s.size ≤ 9223372036854775807) :
    spec_NameOk.l0 (k + 1) s (i : Int) = if nameB (bt s i) = true then spec_NameOk.l0 k s ((i + 1 : Nat) : Int) else some false := by
  simp only [spec_NameOk.l0]
  rw [if_pos (by omega), if_pos (by omega), w64i hi hs]
  generalize bt s (i : Int) = b
  generalize spec_NameOk.l0 k s ((i + 1 : Nat) : Int) = X
  by_cases hb : nameB b = true
  · rw [if_pos hb]
    unfold nameB at hb
    rw [decide_eq_true_eq] at hb
    repeat' split
    all_goals first | rfl | (exfalso; omega)
  · rw [if_neg hb]
    unfold nameB at hb
    rw [decide_eq_true_eq] at hb
    repeat' split
    all_goals first | rfl | (exfalso; omega)
theorem nameSpec_end (k : Nat) (s : ByteArray) : spec_NameOk.l0 (k + 1) s (s.size : Int) = some (decide (1 ≤ s.size ∧ s.size ≤ 20)) := by
  simp only [spec_NameOk.l0]
  rw [if_neg (by omega)]
  unfold spec_l1In.f
  by_cases h : (s.size : Int) ≥ 1
  · rw [if_pos h]; simp only [Option.bind_some]; congr 1; rw [decide_eq_decide]; omega
  · rw [if_neg h]; simp only [Option.bind_some]; congr 1; symm; rw [decide_eq_false_iff_not]; omega
theorem nameSpec_eq (s : ByteArray) (hs : s.size ≤ 9223372036854775807) (k : Nat) (hk : s.size < k) : spec_NameOk.f k s = some (scan (nameStop s) (decide (1 ≤ s.size ∧ s.size ≤ 20)) s.size 0) := by
  unfold spec_NameOk.f
  refine loop_scan0 (fun k i => spec_NameOk.l0 k s i) s.size 0 (nameStop s) _ ?_ ?_ ?_ k (by omega)
  · intro k i r _ hi h
    rw [nameSpec_step k s i hi hs]
    unfold nameStop at h
    split at h
    · cases h
    · rename_i hb; rw [if_neg hb]; exact h
  · intro k i _ hi h
    rw [nameSpec_step k s i hi hs]
    unfold nameStop at h
    split at h
    · rename_i hb; rw [if_pos hb]
    · cases h
  · intro k _; exact nameSpec_end k s
theorem nameImpl_step (k : Nat) (s : ByteArray) (i : Nat) (hi : i < s.size) (hs : s.size ≤ 9223372036854775807) :
    impl_NameOk.l0 (k + 1) s (i : Int) = if nameB (bt s i) = true then impl_NameOk.l0 k s ((i + 1 : Nat) : Int) else some false := by
  simp only [impl_NameOk.l0]
  rw [if_pos (by omega), if_pos (by omega), w64i hi hs, nameByte_eq]
  rfl
theorem nameImpl_loop (s : ByteArray) (hs : s.size ≤ 9223372036854775807) (k : Nat) (hk : s.size < k) : impl_NameOk.l0 k s 0 = some (scan (nameStop s) true s.size 0) := by
  refine loop_scan0 (fun k i => impl_NameOk.l0 k s i) s.size 0 (nameStop s) _ ?_ ?_ ?_ k (by omega)
  · intro k i r _ hi h
    rw [nameImpl_step k s i hi hs]
    unfold nameStop at h
    split at h
    · cases h
    · rename_i hb; rw [if_neg hb]; exact h
  · intro k i _ hi h
    rw [nameImpl_step k s i hi hs]
    unfold nameStop at h
    split at h
    · rename_i hb; rw [if_pos hb]
    · cases h
  · intro k _
    simp only [impl_NameOk.l0]
    rw [if_neg (by omega)]
/-- What a name is. -/
def nameOk (s : ByteArray) : Bool := decide (1 ≤ s.size ∧ s.size ≤ 20) && scan (nameStop s) true s.size 0
theorem nameSpec (s : ByteArray) (hs : s.size ≤ 9223372036854775807) (k : Nat) (hk : s.size < k) : spec_NameOk.f k s = some (nameOk s) := by
  rw [nameSpec_eq s hs k hk]
  congr 1
  unfold nameOk
  by_cases h : 1 ≤ s.size ∧ s.size ≤ 20
  · rw [decide_eq_true h, Bool.true_and]
  · rw [decide_eq_false h, Bool.false_and]
    rcases scan_cases (nameStop s) false s.size 0 with ⟨j, r, _, _, h3, _, h5⟩ | ⟨_, h2⟩
    · rw [h5]
      unfold nameStop at h3
      split at h3
      · cases h3
      · exact (Option.some.inj h3).symm
    · exact h2
theorem nameImpl (s : ByteArray) (hs : s.size ≤ 9223372036854775807) (k : Nat) (hk : s.size + 1 < k) : impl_NameOk.f k s = some (nameOk s) := by
  obtain ⟨k, rfl⟩ : ∃ m, k = m + 1 := ⟨k - 1, by omega⟩
  unfold impl_NameOk.f nameOk
  by_cases h1 : (s.size : Int) < 1
  · rw [if_pos h1, decide_eq_false (by omega), Bool.false_and]
    rfl
  · rw [if_neg h1]
    simp only [impl_NameOk.j0]
    by_cases h2 : (s.size : Int) > 20
    · rw [if_pos (decide_eq_true h2), decide_eq_false (by omega), Bool.false_and]
    · rw [if_neg (by simpa using h2), nameImpl_loop s hs k (by omega), decide_eq_true (by omega), Bool.true_and]

theorem FnExactNameOk : laws_FnExactNameOk.Pure := by
  intro a0 ha
  refine ⟨a0.size + 2, ?_⟩
  unfold laws_FnExactNameOk.f
  by_cases h : (a0.size : Int) > 1048576
  · rw [if_pos h]
  · rw [if_neg h, nameSpec a0 (by omega) _ (by omega), nameImpl a0 (by omega) _ (by omega)]
    simp only [Option.bind_some]
    rw [if_neg (by simp)]

end Go.Proofs.Ytjmjhpdoealpaaa.Pure
