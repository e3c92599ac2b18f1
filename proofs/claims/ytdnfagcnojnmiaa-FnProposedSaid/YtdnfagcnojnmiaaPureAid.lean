/- Plain lemmas on loops with rounds, on lists and on whole numbers; nothing here speaks of the program. Conditions: none. -/
import Derived.RowKit
import Derived.WalkKit
import Derived.Test.YtdnfagcnojnmiaaWWords
namespace Go.Proofs.Ytdnfagcnojnmiaa.Aid
open Go Go.RowKit Go.Proofs.YtdnfagcnojnmiaaW.PrintWords

theorem wf64 {a : Int} (h : (Lit.int .i64 a).wf = true) : -9223372036854775808 ≤ a ∧ a ≤ 9223372036854775807 := by
  simp only [Lit.wf, Bool.and_eq_true, decide_eq_true_eq] at h
  have h1 : IntKind.i64.min = -9223372036854775808 := rfl
  have h2 : IntKind.i64.max = 9223372036854775807 := rfl
  omega
theorem w64 {x : Int} (h0 : -9223372036854775808 ≤ x) (h1 : x ≤ 9223372036854775807) : wrap64 x = x := by
  unfold wrap64; omega
theorem w64i {i n : Nat} (h : i < n) (hn : n ≤ 9223372036854775807) : wrap64 ((i : Int) + 1) = ((i + 1 : Nat) : Int) := by
  unfold wrap64; omega
theorem maxLen_eq : maxLen = 9223372036854775807 := by unfold maxLen; rfl

/-- What a scan over places i, i + 1, .. (d of them) comes to: the first answer, else fin. -/
def scan {ρ : Type} (stop : Nat → Option ρ) (fin : ρ) : Nat → Nat → ρ
  | 0, _ => fin
  | d + 1, i => match stop i with
    | some r => r
    | none => scan stop fin d (i + 1)

/-- A loop over places that goes on or answers. K: how many rounds its callees want. -/
theorem loop_scan {ρ : Type} (l : Nat → Int → Option ρ) (n K : Nat) (stop : Nat → Option ρ) (fin : ρ)
    (hstop : ∀ k (i : Nat) r, K ≤ k → i < n → stop i = some r → l (k + 1) (i : Int) = some r)
    (hgo : ∀ k (i : Nat), K ≤ k → i < n → stop i = none → l (k + 1) (i : Int) = l k ((i + 1 : Nat) : Int))
    (hend : ∀ k, K ≤ k → l (k + 1) (n : Int) = some fin) :
    ∀ (d i k : Nat), i + d = n → K + d < k → l k (i : Int) = some (scan stop fin d i) := by
  intro d
  induction d with
  | zero =>
    intro i k hi hk
    obtain ⟨k, rfl⟩ : ∃ m, k = m + 1 := ⟨k - 1, by omega⟩
    obtain rfl : i = n := by omega
    exact hend k (by omega)
  | succ d ih =>
    intro i k hi hk
    obtain ⟨k, rfl⟩ : ∃ m, k = m + 1 := ⟨k - 1, by omega⟩
    unfold scan
    cases hs : stop i with
    | some r => exact hstop k i r (by omega) (by omega) hs
    | none => rw [hgo k i (by omega) (by omega) hs]; exact ih (i + 1) k (by omega) (by omega)
theorem loop_scan0 {ρ : Type} (l : Nat → Int → Option ρ) (n K : Nat) (stop : Nat → Option ρ) (fin : ρ)
    (hstop : ∀ k (i : Nat) r, K ≤ k → i < n → stop i = some r → l (k + 1) (i : Int) = some r)
    (hgo : ∀ k (i : Nat), K ≤ k → i < n → stop i = none → l (k + 1) (i : Int) = l k ((i + 1 : Nat) : Int))
    (hend : ∀ k, K ≤ k → l (k + 1) (n : Int) = some fin) (k : Nat) (hk : K + n < k) : l k 0 = some (scan stop fin n 0) :=
  loop_scan l n K stop fin hstop hgo hend n 0 k (by omega) hk
theorem scan_congr {ρ : Type} {stop stop' : Nat → Option ρ} {fin fin' : ρ} (hf : fin = fin') : ∀ (d i : Nat), (∀ j, i ≤ j → j < i + d → stop j = stop' j) → scan stop fin d i = scan stop' fin' d i := by
  intro d
  induction d with
  | zero => intro i _; exact hf
  | succ d ih =>
    intro i h
    unfold scan
    rw [h i (by omega) (by omega), ih (i + 1) (fun j h1 h2 => h j (by omega) (by omega))]
/-- A scan that only tests: true where all pass. -/
theorem scan_all {p : Nat → Bool} : ∀ (d i : Nat), scan (fun j => if p j = true then none else some false) true d i = true ↔ ∀ j, i ≤ j → j < i + d → p j = true := by
  intro d
  induction d with
  | zero => intro i; exact ⟨fun _ j h1 h2 => by omega, fun _ => rfl⟩
  | succ d ih =>
    intro i
    unfold scan
    by_cases hp : p i = true
    · rw [if_pos hp]
      show scan _ true d (i + 1) = true ↔ _
      rw [ih]
      refine ⟨fun h j h1 h2 => ?_, fun h j h1 h2 => h j (by omega) (by omega)⟩
      rcases Nat.eq_or_lt_of_le h1 with h3 | h3
      · rw [← h3]; exact hp
      · exact h j h3 (by omega)
    · rw [if_neg hp]
      show (false = true) ↔ _
      refine ⟨fun h => ?_, fun h => absurd (h i (by omega) (by omega)) hp⟩
      cases h
theorem scan_false {ρ : Type} {stop : Nat → Option ρ} {fin : ρ} : ∀ (d i : Nat), (∀ j, i ≤ j → j < i + d → stop j = none) → scan stop fin d i = fin := by
  intro d
  induction d with
  | zero => intro i _; rfl
  | succ d ih =>
    intro i h
    unfold scan
    rw [h i (by omega) (by omega)]
    exact ih (i + 1) (fun j h1 h2 => h j (by omega) (by omega))
/-- How a scan ends: at the first place that answers, or at its end. -/
theorem scan_cases {ρ : Type} (stop : Nat → Option ρ) (fin : ρ) : ∀ (d i : Nat), (∃ j r, i ≤ j ∧ j < i + d ∧ stop j = some r ∧ (∀ m, i ≤ m → m < j → stop m = none) ∧ scan stop fin d i = r) ∨ ((∀ m, i ≤ m → m < i + d → stop m = none) ∧ scan stop fin d i = fin) := by
  intro d
  induction d with
  | zero => intro i; exact .inr ⟨fun m h1 h2 => by omega, rfl⟩
  | succ d ih =>
    intro i
    unfold scan
    cases hs : stop i with
    | some r => exact .inl ⟨i, r, by omega, by omega, hs, fun m h1 h2 => by omega, rfl⟩
    | none =>
      rcases ih (i + 1) with ⟨j, r, h1, h2, h3, h4, h5⟩ | ⟨h1, h2⟩
      · refine .inl ⟨j, r, by omega, by omega, h3, fun m h6 h7 => ?_, h5⟩
        rcases Nat.eq_or_lt_of_le h6 with h8 | h8
        · rw [← h8]; exact hs
        · exact h4 m h8 h7
      · refine .inr ⟨fun m h6 h7 => ?_, h2⟩
        rcases Nat.eq_or_lt_of_le h6 with h8 | h8
        · rw [← h8]; exact hs
        · exact h1 m h8 (by omega)

/-- A loop that fills a row place by place. -/
theorem loop_fill {α β : Type} (l : Nat → List β → Int → Option (List β)) (xs : List α) (c : α → β) (K : Nat)
    (hgo : ∀ k acc (i : Nat) x, K ≤ k → i < xs.length → acc.length = xs.length → xs[i]? = some x → l (k + 1) acc (i : Int) = l k (acc.set i (c x)) ((i + 1 : Nat) : Int))
    (hend : ∀ k acc, K ≤ k → l (k + 1) acc (xs.length : Int) = some acc) :
    ∀ (d i k : Nat) (acc : List β), i + d = xs.length → K + d < k → acc.length = xs.length → (∀ j, j < i → acc[j]? = (xs[j]?).map c) → l k acc (i : Int) = some (xs.map c) := by
  intro d
  induction d with
  | zero =>
    intro i k acc hi hk hl ha
    obtain ⟨k, rfl⟩ : ∃ m, k = m + 1 := ⟨k - 1, by omega⟩
    obtain rfl : i = xs.length := by omega
    rw [hend k acc (by omega)]
    congr 1
    apply List.ext_getElem?
    intro j
    by_cases hj : j < xs.length
    · rw [ha j hj, List.getElem?_map]
    · rw [List.getElem?_eq_none (by omega), List.getElem?_eq_none (by simpa using hj)]
  | succ d ih =>
    intro i k acc hi hk hl ha
    obtain ⟨k, rfl⟩ : ∃ m, k = m + 1 := ⟨k - 1, by omega⟩
    have hx : xs[i]? = some (xs[i]'(by omega)) := List.getElem?_eq_getElem (by omega)
    rw [hgo k acc i _ (by omega) (by omega) hl hx]
    refine ih (i + 1) k _ (by omega) (by omega) (by simpa using hl) (fun j hj => ?_)
    rcases Nat.lt_succ_iff_lt_or_eq.1 hj with h | rfl
    · rw [List.getElem?_set_ne (by omega)]; exact ha j h
    · rw [List.getElem?_set_self (by omega), hx]; rfl
theorem loop_fill0 {α β : Type} (l : Nat → List β → Int → Option (List β)) (xs : List α) (c : α → β) (K : Nat)
    (hgo : ∀ k acc (i : Nat) x, K ≤ k → i < xs.length → acc.length = xs.length → xs[i]? = some x → l (k + 1) acc (i : Int) = l k (acc.set i (c x)) ((i + 1 : Nat) : Int))
    (hend : ∀ k acc, K ≤ k → l (k + 1) acc (xs.length : Int) = some acc) (k : Nat) (hk : K + xs.length < k) (acc : List β) (ha : acc.length = xs.length) : l k acc 0 = some (xs.map c) :=
  loop_fill l xs c K hgo hend xs.length 0 k acc (by omega) hk ha (fun j hj => by omega)
theorem getD_of {α : Type} {xs : List α} {i : Nat} {x d : α} (h : xs[i]? = some x) : xs.getD (i : Int).toNat d = x := by
  rw [Int.toNat_natCast, List.getD_eq_getElem?_getD, h]; rfl
theorem getD_at {α : Type} {xs : List α} {i : Nat} {x d : α} (h : xs[i]? = some x) : xs.getD i d = x := by
  rw [List.getD_eq_getElem?_getD, h]; rfl

/-- Answered, or going on. -/
def goOn {ρ : Type} : Option ρ → Option ρ → Option ρ
  | some r, _ => some r
  | none, x => x
def goS {σ ρ : Type} : ρ ⊕ σ → (σ → Option ρ) → Option ρ
  | .inl r, _ => some r
  | .inr s, f => f s
theorem goOn_if {ρ : Type} (c : Bool) (r : ρ) (x : Option ρ) : goOn (if c = true then none else some r) x = if c = true then x else some r := by cases c <;> rfl
theorem prev_ifs {ρ : Type} (i : Nat) (n : Int) (hn : (i : Int) ≤ n) (hi : i ≤ 9223372036854775807) (P : Int → Prop) [DecidablePred P] (X Y : Option ρ) :
    (if (i : Int) > 0 then (if 0 ≤ wrap64 ((i : Int) - 1) then (if wrap64 ((i : Int) - 1) < n then (if P (wrap64 ((i : Int) - 1)) then X else Y) else none) else none) else Y) = if (decide (i = 0) || decide (¬ P ((i - 1 : Nat) : Int))) = true then Y else X := by
  by_cases h : i = 0
  · subst h; simp
  · have e : wrap64 ((i : Int) - 1) = ((i - 1 : Nat) : Int) := by unfold wrap64; omega
    rw [e]
    have p1 : (i : Int) > 0 := by omega
    have p2 : (0 : Int) ≤ ((i - 1 : Nat) : Int) := by omega
    have p3 : ((i - 1 : Nat) : Int) < n := by omega
    simp only [if_pos p1, if_pos p2, if_pos p3, decide_eq_false h, Bool.false_or, decide_eq_true_eq]
    by_cases h2 : P ((i - 1 : Nat) : Int)
    · rw [if_pos h2, if_neg (fun h3 => h3 h2)]
    · rw [if_neg h2, if_pos h2]
/-- A scan whose rounds take up to c of the loop's rounds each. -/
theorem loop_scanM {ρ : Type} (l : Nat → Int → Option ρ) (n K c : Nat) (stop : Nat → Option ρ) (fin : ρ)
    (hstep : ∀ k (i : Nat), K ≤ k → i < n → l (k + c) (i : Int) = goOn (stop i) (l k ((i + 1 : Nat) : Int)))
    (hend : ∀ k, K ≤ k → l (k + c) (n : Int) = some fin) :
    ∀ (d i k : Nat), i + d = n → K + c * d + c ≤ k → l k (i : Int) = some (scan stop fin d i) := by
  intro d
  induction d with
  | zero =>
    intro i k hi hk
    obtain ⟨k, rfl⟩ : ∃ m, k = m + c := ⟨k - c, by omega⟩
    obtain rfl : i = n := by omega
    exact hend k (by omega)
  | succ d ih =>
    intro i k hi hk
    rw [Nat.mul_succ] at hk
    obtain ⟨k, rfl⟩ : ∃ m, k = m + c := ⟨k - c, by omega⟩
    rw [hstep k i (by omega) (by omega)]
    unfold scan
    cases hs : stop i with
    | some r => rfl
    | none => exact ih (i + 1) k (by omega) (by omega)
theorem loop_scanM0 {ρ : Type} (l : Nat → Int → Option ρ) (n K c : Nat) (stop : Nat → Option ρ) (fin : ρ)
    (hstep : ∀ k (i : Nat), K ≤ k → i < n → l (k + c) (i : Int) = goOn (stop i) (l k ((i + 1 : Nat) : Int)))
    (hend : ∀ k, K ≤ k → l (k + c) (n : Int) = some fin) (k : Nat) (hk : K + c * n + c ≤ k) : l k 0 = some (scan stop fin n 0) :=
  loop_scanM l n K c stop fin hstep hend n 0 k (by omega) hk

/-- What a loop over places with a state comes to. -/
def foldS {σ ρ : Type} (step : Nat → σ → ρ ⊕ σ) (fin : σ → ρ) : Nat → Nat → σ → ρ
  | 0, _, s => fin s
  | d + 1, i, s => match step i s with
    | .inl r => r
    | .inr s' => foldS step fin d (i + 1) s'
theorem loop_fold {σ ρ : Type} (l : Nat → Int → σ → Option ρ) (n K c : Nat) (step : Nat → σ → ρ ⊕ σ) (fin : σ → ρ) (Inv : Nat → σ → Prop)
    (hstep : ∀ k (i : Nat) s, K ≤ k → i < n → Inv i s → l (k + c) (i : Int) s = goS (step i s) (fun s' => l k ((i + 1 : Nat) : Int) s'))
    (hinv : ∀ (i : Nat) s s', i < n → Inv i s → step i s = .inr s' → Inv (i + 1) s')
    (hend : ∀ k s, K ≤ k → Inv n s → l (k + c) (n : Int) s = some (fin s)) :
    ∀ (d i k : Nat) (s : σ), i + d = n → K + c * d + c ≤ k → Inv i s → l k (i : Int) s = some (foldS step fin d i s) := by
  intro d
  induction d with
  | zero =>
    intro i k s hi hk hI
    obtain ⟨k, rfl⟩ : ∃ m, k = m + c := ⟨k - c, by omega⟩
    obtain rfl : i = n := by omega
    exact hend k s (by omega) hI
  | succ d ih =>
    intro i k s hi hk hI
    rw [Nat.mul_succ] at hk
    obtain ⟨k, rfl⟩ : ∃ m, k = m + c := ⟨k - c, by omega⟩
    rw [hstep k i s (by omega) (by omega) hI]
    unfold foldS
    cases hs : step i s with
    | inl r => rfl
    | inr s' => exact ih (i + 1) k s' (by omega) (by omega) (hinv i s s' (by omega) hI hs)
theorem loop_fold0 {σ ρ : Type} (l : Nat → Int → σ → Option ρ) (n K c : Nat) (step : Nat → σ → ρ ⊕ σ) (fin : σ → ρ) (Inv : Nat → σ → Prop)
    (hstep : ∀ k (i : Nat) s, K ≤ k → i < n → Inv i s → l (k + c) (i : Int) s = goS (step i s) (fun s' => l k ((i + 1 : Nat) : Int) s'))
    (hinv : ∀ (i : Nat) s s', i < n → Inv i s → step i s = .inr s' → Inv (i + 1) s')
    (hend : ∀ k s, K ≤ k → Inv n s → l (k + c) (n : Int) s = some (fin s)) (k : Nat) (s : σ) (hk : K + c * n + c ≤ k) (hI : Inv 0 s) : l k 0 s = some (foldS step fin n 0 s) :=
  loop_fold l n K c step fin Inv hstep hinv hend n 0 k s (by omega) hk hI

/-- A scan whose rounds take as many of the loop's rounds as they want, c at most. -/
theorem loop_scanX {ρ : Type} (l : Nat → Int → Option ρ) (n K c : Nat) (stop : Nat → Option ρ) (fin : ρ)
    (hstep : ∀ k (i : Nat), K ≤ k → i < n → ∃ k', k ≤ k' ∧ l (k + c) (i : Int) = goOn (stop i) (l k' ((i + 1 : Nat) : Int)))
    (hend : ∀ k, K ≤ k → l (k + c) (n : Int) = some fin) :
    ∀ (d i k : Nat), i + d = n → K + c * d + c ≤ k → l k (i : Int) = some (scan stop fin d i) := by
  intro d
  induction d with
  | zero =>
    intro i k hi hk
    obtain ⟨k, rfl⟩ : ∃ m, k = m + c := ⟨k - c, by omega⟩
    obtain rfl : i = n := by omega
    exact hend k (by omega)
  | succ d ih =>
    intro i k hi hk
    rw [Nat.mul_succ] at hk
    obtain ⟨k, rfl⟩ : ∃ m, k = m + c := ⟨k - c, by omega⟩
    obtain ⟨k', hk', e⟩ := hstep k i (by omega) (by omega)
    rw [e]
    unfold scan
    cases hs : stop i with
    | some r => rfl
    | none => exact ih (i + 1) k' (by omega) (by omega)
theorem loop_scanX0 {ρ : Type} (l : Nat → Int → Option ρ) (n K c : Nat) (stop : Nat → Option ρ) (fin : ρ)
    (hstep : ∀ k (i : Nat), K ≤ k → i < n → ∃ k', k ≤ k' ∧ l (k + c) (i : Int) = goOn (stop i) (l k' ((i + 1 : Nat) : Int)))
    (hend : ∀ k, K ≤ k → l (k + c) (n : Int) = some fin) (k : Nat) (hk : K + c * n + c ≤ k) : l k 0 = some (scan stop fin n 0) :=
  loop_scanX l n K c stop fin hstep hend n 0 k (by omega) hk
/-- Is there one among d places from j on? -/
def anyIn (p : Nat → Bool) : Nat → Nat → Bool
  | 0, _ => false
  | d + 1, j => p j || anyIn p d (j + 1)
theorem anyIn_iff (p : Nat → Bool) : ∀ (d j : Nat), anyIn p d j = true ↔ ∃ m, j ≤ m ∧ m < j + d ∧ p m = true := by
  intro d
  induction d with
  | zero => intro j; exact ⟨(fun h => by cases h), (fun ⟨m, h1, h2, _⟩ => by omega)⟩
  | succ d ih =>
    intro j
    unfold anyIn
    rw [Bool.or_eq_true, ih]
    constructor
    · rintro (h | ⟨m, h1, h2, h3⟩)
      · exact ⟨j, by omega, by omega, h⟩
      · exact ⟨m, by omega, by omega, h3⟩
    · rintro ⟨m, h1, h2, h3⟩
      rcases Nat.eq_or_lt_of_le h1 with h | h
      · subst h; exact .inl h3
      · exact .inr ⟨m, h, by omega, h3⟩
theorem anyIn_congr (p q : Nat → Bool) : ∀ (d j : Nat), (∀ m, j ≤ m → m < j + d → p m = q m) → anyIn p d j = anyIn q d j := by
  intro d
  induction d with
  | zero => intro j _; rfl
  | succ d ih =>
    intro j h
    unfold anyIn
    rw [h j (by omega) (by omega), ih (j + 1) (fun m h1 h2 => h m (by omega) (by omega))]
end Go.Proofs.Ytdnfagcnojnmiaa.Aid
