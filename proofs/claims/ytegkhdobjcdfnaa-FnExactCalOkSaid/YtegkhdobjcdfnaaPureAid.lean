/- Plain lemmas on loops with rounds, on lists and on whole numbers; nothing here speaks of the program. Conditions: none. -/
import Derived.RowKit
import Derived.WalkKit
import Derived.Test.YtegkhdobjcdfnaaWWords
namespace Go.Proofs.Ytegkhdobjcdfnaa.Aid
open Go Go.RowKit Go.Proofs.YtegkhdobjcdfnaaW.PrintWords

theorem wf64 {a : Int} (h : (Lit.int .i64 a).wf = true) : -9223372036854775808 ≤ a ∧ a ≤ 9223372036854775807 := by
  simp only [Lit.wf, Bool.and_eq_true, decide_eq_true_eq] at h
  have h1 : IntKind.i64.min = -9223372036854775808 := rfl
  have h2 : IntKind.i64.max = 9223372036854775807 := rfl
  omega
theorem w64 {x : Int} (h0 : -9223372036854775808 ≤ x) (h1 : x ≤ 9223372036854775807) : wrap64 x = x := by
  unfold wrap64; omega
theorem w64i {i n : Nat} (h : i < n) (hn : n ≤ 9223372036854775807) : wrap64 ((i : Int) + 1) = ((i + 1 : Nat) : Int) := by
  unfold wrap64; omega
theorem maxLen_eq : maxLen = 9223372036854775807 := by unfold maxLen; rfl

/-- What a scan over places i, i + 1, .. (d of them) comes to: the first answer, else fin. -/
def scan {ρ : Type} (stop : Nat → Option ρ) (fin : ρ) : Nat → Nat → ρ
  | 0, _ => fin
  | d + 1, i => match stop i with
    | some r => r
    | none => scan stop fin d (i + 1)

/-- A loop over places that goes on or answers. K: how many rounds its callees want. -/
theorem loop_scan {ρ : Type} (l : Nat → Int → Option ρ) (n K : Nat) (stop : Nat → Option ρ) (fin : ρ)
    (hstop : ∀ k (i : Nat) r, K ≤ k → i < n → stop i = some r → l (k + 1) (i : Int) = some r)
    (hgo : ∀ k (i : Nat), K ≤ k → i < n → stop i = none → l (k + 1) (i : Int) = l k ((i + 1 : Nat) : Int))
    (hend : ∀ k, K ≤ k → l (k + 1) (n : Int) = some fin) :
    ∀ (d i k : Nat), i + d = n → K + d < k → l k (i : Int) = some (scan stop fin d i) := by
  intro d
  induction d with
  | zero =>
    intro i k hi hk
    obtain ⟨k, rfl⟩ : ∃ m, k = m + 1 := ⟨k - 1, by omega⟩
    obtain rfl : i = n := by omega
    exact hend k (by omega)
  | succ d ih =>
    intro i k hi hk
    obtain ⟨k, rfl⟩ : ∃ m, k = m + 1 := ⟨k - 1, by omega⟩
    unfold scan
    cases hs : stop i with
    | some r => exact hstop k i r (by omega) (by omega) hs
    | none => rw [hgo k i (by omega) (by omega) hs]; exact ih (i + 1) k (by omega) (by omega)
theorem loop_scan0 {ρ : Type} (l : Nat → Int → Option ρ) (n K : Nat) (stop : Nat → Option ρ) (fin : ρ)
    (hstop : ∀ k (i : Nat) r, K ≤ k → i < n → stop i = some r → l (k + 1) (i : Int) = some r)
    (hgo : ∀ k (i : Nat), K ≤ k → i < n → stop i = none → l (k + 1) (i : Int) = l k ((i + 1 : Nat) : Int))
    (hend : ∀ k, K ≤ k → l (k + 1) (n : Int) = some fin) (k : Nat) (hk : K + n < k) : l k 0 = some (scan stop fin n 0) :=
  loop_scan l n K stop fin hstop hgo hend n 0 k (by omega) hk
theorem scan_congr {ρ : Type} {stop stop' : Nat → Option ρ} {fin fin' : ρ} (hf : fin = fin') : ∀ (d i : Nat), (∀ j, i ≤ j → j < i + d → stop j = stop' j) → scan stop fin d i = scan stop' fin' d i := by
  intro d
  induction d with
  | zero => intro i _; exact hf
  | succ d ih =>
    intro i h
    unfold scan
    rw [h i (by omega) (by omega), ih (i + 1) (fun j h1 h2 => h j (by omega) (by omega))]
/-- A scan that only tests: true where all pass. -/
theorem scan_all {p : Nat → Bool} : ∀ (d i : Nat), scan (fun j => if p j = true then none else some false) true d i = true ↔ ∀ j, i ≤ j → j < i + d → p j = true := by
  intro d
  induction d with
  | zero => intro i; exact ⟨fun _ j h1 h2 => by omega, fun _ => rfl⟩
  | succ d ih =>
    intro i
    unfold scan
    by_cases hp : p i = true
    · rw [if_pos hp]
      show scan _ true d (i + 1) = true ↔ _
      rw [ih]
      refine ⟨fun h j h1 h2 => ?_, fun h j h1 h2 => h j (by omega) (by omega)⟩
      rcases Nat.eq_or_lt_of_le h1 with h3 | h3
      · rw [← h3]; exact hp
      · exact h j h3 (by omega)
    · rw [if_neg hp]
      show (false = true) ↔ _
      refine ⟨fun h => ?_, fun h => absurd (h i (by omega) (by omega)) hp⟩
      cases h
theorem scan_false {ρ : Type} {stop : Nat → Option ρ} {fin : ρ} : ∀ (d i : Nat), (∀ j, i ≤ j → j < i + d → stop j = none) → scan stop fin d i = fin := by
  intro d
  induction d with
  | zero => intro i _; rfl
  | succ d ih =>
    intro i h
    unfold scan
    rw [h i (by omega) (by omega)]
    exact ih (i + 1) (fun j h1 h2 => h j (by omega) (by omega))
/-- How a scan ends: at the first place that answers, or at its end. -/
theorem scan_cases {ρ : Type} (stop : Nat → Option ρ) (fin : ρ) : ∀ (d i : Nat), (∃ j r, i ≤ j ∧ j < i + d ∧ stop j = some r ∧ (∀ m, i ≤ m → m < j → stop m = none) ∧ scan stop fin d i = r) ∨ ((∀ m, i ≤ m → m < i + d → stop m = none) ∧ scan stop fin d i = fin) := by
  intro d
  induction d with
  | zero => intro i; exact .inr ⟨fun m h1 h2 => by omega, rfl⟩
  | succ d ih =>
    intro i
    unfold scan
    cases hs : stop i with
    | some r => exact .inl ⟨i, r, by omega, by omega, hs, fun m h1 h2 => by omega, rfl⟩
    | none =>
      rcases ih (i + 1) with ⟨j, r, h1, h2, h3, h4, h5⟩ | ⟨h1, h2⟩
      · refine .inl ⟨j, r, by omega, by omega, h3, fun m h6 h7 => ?_, h5⟩
        rcases Nat.eq_or_lt_of_le h6 with h8 | h8
        · rw [← h8]; exact hs
        · exact h4 m h8 h7
      · refine .inr ⟨fun m h6 h7 => ?_, h2⟩
        rcases Nat.eq_or_lt_of_le h6 with h8 | h8
        · rw [← h8]; exact hs
        · exact h1 m h8 (by omega)

/-- A loop that fills a row place by place. -/
theorem loop_fill {α β : Type} (l : Nat → List β → Int → Option (List β)) (xs : List α) (c : α → β) (K : Nat)
    (hgo : ∀ k acc (i : Nat) x, K ≤ k → i < xs.length → acc.length = xs.length → xs[i]? = some x → l (k + 1) acc (i : Int) = l k (acc.set i (c x)) ((i + 1 : Nat) : Int))
    (hend : ∀ k acc, K ≤ k → l (k + 1) acc (xs.length : Int) = some acc) :
    ∀ (d i k : Nat) (acc : List β), i + d = xs.length → K + d < k → acc.length = xs.length → (∀ j, j < i → acc[j]? = (xs[j]?).map c) → l k acc (i : Int) = some (xs.map c) := by
  intro d
  induction d with
  | zero =>
    intro i k acc hi hk hl ha
    obtain ⟨k, rfl⟩ : ∃ m, k = m + 1 := ⟨k - 1, by omega⟩
    obtain rfl : i = xs.length := by omega
    rw [hend k acc (by omega)]
    congr 1
    apply List.ext_getElem?
    intro j
    by_cases hj : j < xs.length
    · rw [ha j hj, List.getElem?_map]
    · rw [List.getElem?_eq_none (by omega), List.getElem?_eq_none (by simpa using hj)]
  | succ d ih =>
    intro i k acc hi hk hl ha
    obtain ⟨k, rfl⟩ : ∃ m, k = m + 1 := ⟨k - 1, by omega⟩
    have hx : xs[i]? = some (xs[i]'(by omega)) := List.getElem?_eq_getElem (by omega)
    rw [hgo k acc i _ (by omega) (by omega) hl hx]
    refine ih (i + 1) k _ (by omega) (by omega) (by simpa using hl) (fun j hj => ?_)
    rcases Nat.lt_succ_iff_lt_or_eq.1 hj with h | rfl
    · rw [List.getElem?_set_ne (by omega)]; exact ha j h
    · rw [List.getElem?_set_self (by omega), hx]; rfl
theorem loop_fill0 {α β : Type} (l : Nat → List β → Int → Option (List β)) (xs : List α) (c : α → β) (K : Nat)
    (hgo : ∀ k acc (i : Nat) x, K ≤ k → i < xs.length → acc.length = xs.length → xs[i]? = some x → l (k + 1) acc (i : Int) = l k (acc.set i (c x)) ((i + 1 : Nat) : Int))
    (hend : ∀ k acc, K ≤ k → l (k + 1) acc (xs.length : Int) = some acc) (k : Nat) (hk : K + xs.length < k) (acc : List β) (ha : acc.length = xs.length) : l k acc 0 = some (xs.map c) :=
  loop_fill l xs c K hgo hend xs.length 0 k acc (by omega) hk ha (fun j hj => by omega)
theorem getD_of {α : Type} {xs : List α} {i : Nat} {x d : α} (h : xs[i]? = some x) : xs.getD (i : Int).toNat d = x := by
  rw [Int.toNat_natCast, List.getD_eq_getElem?_getD, h]; rfl
theorem getD_at {α : Type} {xs : List α} {i : Nat} {x d : α} (h : xs[i]? = some x) : xs.getD i d = x := by
  rw [List.getD_eq_getElem?_getD, h]; rfl
end Go.Proofs.Ytegkhdobjcdfnaa.Aid
