/- The program's AccountNumber answers as the reference's at every text. Conditions: none. -/
import Derived.Test.YtjmjhpdoealpaaaPFnExactAccountNumberx0
import Derived.Test.YtjmjhpdoealpaaaPFnExactAccountNumberx1
import Derived.Test.YtjmjhpdoealpaaaPFnExactAccountNumberx2
import Derived.Test.YtjmjhpdoealpaaaPFnExactAccountNumberx3
import Derived.Test.YtjmjhpdoealpaaaPureAid
import Derived.Test.YtjmjhpdoealpaaaWMore
namespace Go.Proofs.Ytjmjhpdoealpaaa.Pure
open Go Go.RowKit Go.Proofs.Ytjmjhpdoealpaaa.PFnExactAccountNumber Go.Proofs.YtjmjhpdoealpaaaW.PrintWords Go.Proofs.YtjmjhpdoealpaaaW.PrintLast Go.Proofs.Ytjmjhpdoealpaaa.Aid
set_option linter.unusedVariables false
set_option linter.unusedSimpArgs false
set_option maxRecDepth 100000
theorem bt_lt (s : ByteArray) (i : Nat) (h : i < s.size) : bt s (i : Int) = ((s[i]'h).toNat : Int) := by
  unfold bt
  rw [dif_pos (by simpa using h)]
  rfl
theorem bt_app_left (a b : ByteArray) (i : Nat) (h : i < a.size) : bt (a ++ b) (i : Int) = bt a (i : Int) := by
  rw [bt_lt _ _ (by rw [ByteArray.size_append]; omega), bt_lt _ _ h, ByteArray.getElem_append_left h]
theorem bt_app_right (a b : ByteArray) (i : Nat) (h : i < b.size) : bt (a ++ b) ((a.size + i : Nat) : Int) = bt b (i : Int) := by
  rw [bt_lt _ _ (by rw [ByteArray.size_append]; omega), bt_lt _ _ h, ByteArray.getElem_append_right (by omega)]
  simp
theorem bt_ext (s : ByteArray) (u v i : Nat) (h : u + i < v) (hv : v ≤ s.size) : bt (s.extract u v) (i : Int) = bt s ((u + i : Nat) : Int) := by
  rw [bt_lt _ _ (by rw [ByteArray.size_extract]; omega), bt_lt _ _ (by omega), ByteArray.getElem_extract]

def digB (b : Int) : Bool := decide (48 ≤ b ∧ b ≤ 57)
def capB (b : Int) : Bool := decide (65 ≤ b ∧ b ≤ 90)
theorem digB_iff (b : Int) : digB b = true ↔ 48 ≤ b ∧ b ≤ 57 := by unfold digB; rw [decide_eq_true_eq]
theorem capB_iff (b : Int) : capB b = true ↔ 65 ≤ b ∧ b ≤ 90 := by unfold capB; rw [decide_eq_true_eq]
theorem two_dec (a b : Prop) [Decidable a] [Decidable b] : (if a then some (decide b) else some false) = some (decide (a ∧ b)) := by
  by_cases h : a
  · rw [if_pos h]; congr 1; rw [decide_eq_decide]; exact ⟨fun hb => ⟨h, hb⟩, fun hb => hb.2⟩
  · rw [if_neg h]; congr 1; symm; rw [decide_eq_false_iff_not]; exact fun hb => h hb.1
theorem l14Big_eq (b : Int) : spec_l14Big.f b = some (capB b) := by unfold spec_l14Big.f capB; exact two_dec (b ≥ 65) (b ≤ 90)
theorem l9Digit_eq (b : Int) : spec_l9Digit.f b = some (digB b) := by unfold spec_l9Digit.f digB; exact two_dec (b ≥ 48) (b ≤ 57)
theorem capital_eq (b : Int) : impl_capital.f b = some (capB b) := by unfold impl_capital.f capB; exact two_dec (b ≥ 65) (b ≤ 90)
theorem digit_eq (b : Int) : impl_digit.f b = some (digB b) := by unfold impl_digit.f digB; exact two_dec (b ≥ 48) (b ≤ 57)
def signB (b : Int) : Bool := capB b || digB b
theorem l14Rest_eq (s : ByteArray) (hs : s.size ≤ 9223372036854775807) (k : Nat) (hk : s.size < k) : spec_l14Rest.f k s = some (scan (fun j => if signB (bt s j) = true then none else some false) true s.size 0) := by
  unfold spec_l14Rest.f
  have step : ∀ (k i : Nat), i < s.size → spec_l14Rest.l0 (k + 1) s (i : Int) = if signB (bt s i) = true then spec_l14Rest.l0 k s ((i + 1 : Nat) : Int) else some false := by
    intro k i hi
    simp only [spec_l14Rest.l0]
    rw [if_pos (by omega), if_pos (by omega), w64i hi hs, l14Big_eq]
    simp only [Option.bind_some, l9Digit_eq]
    unfold signB
    cases capB (bt s i) <;> cases digB (bt s i) <;> simp
  refine loop_scan0 (fun k i => spec_l14Rest.l0 k s i) s.size 0 _ true ?_ ?_ ?_ k (by omega)
  · intro k i r _ hi h
    rw [step k i hi]
    split at h
    · cases h
    · rename_i hb; rw [if_neg hb]; exact h
  · intro k i _ hi h
    rw [step k i hi]
    split at h
    · rename_i hb; rw [if_pos hb]
    · cases h
  · intro k _
    simp only [spec_l14Rest.l0]
    rw [if_neg (by omega)]
/-- The rest by 97 of signs that are all digits or capitals. -/
def modL (s : ByteArray) : Nat → Nat → Int → Int
  | 0, _, n => n
  | d + 1, i, n => if digB (bt s i) = true then modL s d (i + 1) ((n * 10 + (bt s i - 48)) % 97) else modL s d (i + 1) ((n * 100 + (bt s i - 65) + 10) % 97)
theorem modL_range (s : ByteArray) : ∀ (d i : Nat) (n : Int), 0 ≤ n → n < 97 → 0 ≤ modL s d i n ∧ modL s d i n < 97 := by
  intro d
  induction d with
  | zero => intro i n h0 h1; exact ⟨h0, h1⟩
  | succ d ih =>
    intro i n h0 h1
    unfold modL
    split
    · exact ih _ _ (by omega) (by omega)
    · exact ih _ _ (by omega) (by omega)
theorem l14Mod_loop (s : ByteArray) (hs : s.size ≤ 9223372036854775807) (ho : ∀ j, j < s.size → signB (bt s (j : Nat)) = true) : ∀ (d i k : Nat) (n : Int), i + d = s.size → d < k → 0 ≤ n → n < 97 → spec_l14Mod.l0 k s n (i : Int) = some (modL s d i n) := by
  intro d
  induction d with
  | zero =>
    intro i k n hi hk _ _
    obtain ⟨k, rfl⟩ : ∃ m, k = m + 1 := ⟨k - 1, by omega⟩
    simp only [spec_l14Mod.l0]
    rw [if_neg (by omega)]
    rfl
  | succ d ih =>
    intro i k n hi hk h0 h1
    obtain ⟨k, rfl⟩ : ∃ m, k = m + 1 := ⟨k - 1, by omega⟩
    simp only [spec_l14Mod.l0]
    rw [if_pos (by omega), if_pos (by omega), w64i (show i < s.size by omega) hs, l9Digit_eq]
    simp only [Option.bind_some]
    unfold modL
    have hb := ho i (by omega)
    unfold signB at hb
    rw [Bool.or_eq_true, digB_iff, capB_iff] at hb
    by_cases hd : digB (bt s i) = true
    · rw [if_pos hd, if_pos hd]
      rw [digB_iff] at hd
      have e : Int.tmod (wrap64 (wrap64 (n * 10) + (bt s i - 48) % 256)) 97 = (n * 10 + (bt s i - 48)) % 97 := by
        rw [w64 (x := n * 10) (by omega) (by omega), w64 (by omega) (by omega), Int.tmod_eq_emod_of_nonneg (by omega)]
        omega
      rw [e]
      exact ih (i + 1) k _ (by omega) (by omega) (by omega) (by omega)
    · rw [if_neg hd, if_neg hd]
      rw [digB_iff] at hd
      have e : Int.tmod (wrap64 (wrap64 (wrap64 (n * 100) + (bt s i - 65) % 256) + 10)) 97 = (n * 100 + (bt s i - 65) + 10) % 97 := by
        rw [w64 (x := n * 100) (by omega) (by omega), w64 (x := n * 100 + _) (by omega) (by omega), w64 (by omega) (by omega), Int.tmod_eq_emod_of_nonneg (by omega)]
        omega
      rw [e]
      exact ih (i + 1) k _ (by omega) (by omega) (by omega) (by omega)
theorem l14Mod_eq (s : ByteArray) (hs : s.size ≤ 9223372036854775807) (ho : ∀ j, j < s.size → signB (bt s (j : Nat)) = true) (k : Nat) (hk : s.size < k) : spec_l14Mod.f k s = some (modL s s.size 0 0) := by
  unfold spec_l14Mod.f
  exact l14Mod_loop s hs ho s.size 0 k 0 (by omega) hk (by omega) (by omega)
theorem rest97_good (s : ByteArray) (ho : ∀ j, j < s.size → signB (bt s (j : Nat)) = true) : ∀ (d i : Nat) (n : Int), i + d = s.size → impl_rest97.L s d i n = modL s d i n := by
  intro d
  induction d with
  | zero => intro i n _; rfl
  | succ d ih =>
    intro i n hi
    unfold impl_rest97.L modL
    have hb := ho i (by omega)
    unfold signB at hb
    rw [Bool.or_eq_true, digB_iff, capB_iff] at hb
    by_cases hd : digB (bt s i) = true
    · rw [if_pos hd, if_pos ((digB_iff _).1 hd)]
      exact ih (i + 1) _ (by omega)
    · rw [if_neg hd]
      rw [digB_iff] at hd
      rw [if_neg hd, if_pos (by omega)]
      exact ih (i + 1) _ (by omega)
theorem rest97_bad (s : ByteArray) : ∀ (d i : Nat) (n : Int), (∃ j, i ≤ j ∧ j < i + d ∧ signB (bt s (j : Nat)) ≠ true) → impl_rest97.L s d i n = -1 := by
  intro d
  induction d with
  | zero => intro i n ⟨j, h1, h2, _⟩; omega
  | succ d ih =>
    intro i n ⟨j, h1, h2, h3⟩
    unfold impl_rest97.L
    by_cases hi : signB (bt s i) = true
    · have hj : i + 1 ≤ j := by
        rcases Nat.eq_or_lt_of_le h1 with rfl | h
        · exact absurd hi h3
        · exact h
      unfold signB at hi
      rw [Bool.or_eq_true, digB_iff, capB_iff] at hi
      by_cases hd : 48 ≤ bt s i ∧ bt s i ≤ 57
      · rw [if_pos hd]; exact ih _ _ ⟨j, hj, by omega, h3⟩
      · rw [if_neg hd, if_pos (by omega)]; exact ih _ _ ⟨j, hj, by omega, h3⟩
    · unfold signB at hi
      rw [Bool.or_eq_true, digB_iff, capB_iff] at hi
      rw [if_neg (fun h => hi (.inr h)), if_neg (fun h => hi (.inl h))]
/-- The signs in the order in which they are reckoned. -/
def turned (s : ByteArray) : ByteArray := s.extract 4 s.size ++ s.extract 0 4
theorem turned_size (s : ByteArray) (h : 4 ≤ s.size) : (turned s).size = s.size := by
  unfold turned
  rw [ByteArray.size_append, ByteArray.size_extract, ByteArray.size_extract]
  omega
theorem turned_low (s : ByteArray) (h : 4 ≤ s.size) (j : Nat) (hj : j < s.size - 4) : bt (turned s) (j : Nat) = bt s ((4 + j : Nat) : Int) := by
  unfold turned
  rw [bt_app_left _ _ _ (by rw [ByteArray.size_extract]; omega), bt_ext _ _ _ _ (by omega) (Nat.le_refl _)]
theorem turned_high (s : ByteArray) (h : 4 ≤ s.size) (j : Nat) (hj : j < 4) : bt (turned s) ((s.size - 4 + j : Nat) : Int) = bt s (j : Int) := by
  have hz : (s.extract 4 s.size).size = s.size - 4 := by rw [ByteArray.size_extract]; omega
  unfold turned
  rw [← hz, bt_app_right _ _ _ (by rw [ByteArray.size_extract]; omega), bt_ext _ _ _ _ (by omega) (by omega), Nat.zero_add]
theorem turned_all (s : ByteArray) (h : 4 ≤ s.size) (p : Int → Bool) : (∀ j, j < s.size → p (bt s (j : Nat)) = true) ↔ (∀ j, j < (turned s).size → p (bt (turned s) (j : Nat)) = true) := by
  rw [turned_size s h]
  constructor
  · intro ha j hj
    by_cases hl : j < s.size - 4
    · rw [turned_low s h j hl]; exact ha _ (by omega)
    · obtain ⟨m, rfl⟩ : ∃ m, j = s.size - 4 + m := ⟨j - (s.size - 4), by omega⟩
      rw [turned_high s h m (by omega)]; exact ha m (by omega)
  · intro ha j hj
    by_cases hl : j < 4
    · rw [← turned_high s h j hl]; exact ha _ (by omega)
    · obtain ⟨m, rfl⟩ : ∃ m, j = 4 + m := ⟨j - 4, by omega⟩
      rw [← turned_low s h m (by omega)]; exact ha m (by omega)
/-- What an account's number is. -/
def accOk (s : ByteArray) : Bool := decide (8 ≤ s.size ∧ s.size ≤ 30) && capB (bt s 0) && capB (bt s 1) && digB (bt s 2) && digB (bt s 3) && (impl_rest97.L (turned s) (turned s).size 0 0 == 1)
theorem acc_spec (s : ByteArray) (k : Nat) (hk : s.size + 100 < k) : spec_AccountNumber.f k s = some (accOk s) := by
  unfold spec_AccountNumber.f spec_l1In.f accOk
  rw [two_dec]
  simp only [Option.bind_some]
  by_cases hs : 8 ≤ s.size ∧ s.size ≤ 30
  · rw [if_pos (decide_eq_true (by omega)), decide_eq_true hs, l14Rest_eq s (by omega) k (by omega)]
    simp only [Option.bind_some]
    by_cases ho : ∀ j, j < s.size → signB (bt s (j : Nat)) = true
    · rw [(scan_all s.size 0).2 (fun j _ h => ho j (by omega)), if_pos rfl, if_pos (by omega)]
      have ht := (turned_all s (by omega) signB).1 ho
      have hz := turned_size s (by omega)
      have p0 : (0 : Int) < (s.size : Int) := by omega
      have p1 : (1 : Int) < (s.size : Int) := by omega
      have p2 : (2 : Int) < (s.size : Int) := by omega
      have p3 : (3 : Int) < (s.size : Int) := by omega
      have p4 : (4 : Int) ≤ (s.size : Int) := by omega
      have p5 : (0 : Int) ≤ 4 := by omega
      have p6 : (s.extract 4 s.size).size + (s.extract 0 4).size ≤ 9223372036854775807 := by rw [ByteArray.size_extract, ByteArray.size_extract]; omega
      simp only [l14Big_eq, l9Digit_eq, Option.bind_some, if_pos p1, if_pos p2, if_pos p3, if_pos p4, if_pos p5, if_pos p6]
      rw [show s.extract 4 s.size ++ s.extract 0 4 = turned s from rfl, l14Mod_eq (turned s) (by omega) ht k (by omega), rest97_good (turned s) ht _ _ _ (by omega)]
      simp only [Option.bind_some]
      cases capB (bt s 0) <;> cases capB (bt s 1) <;> cases digB (bt s 2) <;> cases digB (bt s 3) <;> simp
    · have hf : scan (fun j => if signB (bt s (j : Nat)) = true then none else some false) true s.size 0 = false := by
        rw [← Bool.not_eq_true, scan_all]
        exact fun h => ho (fun j hj => h j (by omega) (by omega))
      have ht : ∃ j, 0 ≤ j ∧ j < 0 + (turned s).size ∧ signB (bt (turned s) (j : Nat)) ≠ true := by
        rw [turned_all s (by omega) signB] at ho
        rcases Classical.not_forall.1 ho with ⟨j, hj⟩
        rcases Classical.not_imp.1 hj with ⟨h1, h2⟩
        exact ⟨j, by omega, by omega, h2⟩
      rw [hf, rest97_bad (turned s) _ 0 0 ht]
      simp
  · rw [if_neg (by simp only [decide_eq_true_eq]; omega), decide_eq_false hs]
    simp
theorem capital_wrap (b : Int) (h0 : 0 ≤ b) (h1 : b ≤ 255) : impl_capital.f (wrap32 b) = some (capB b) := by
  have : wrap32 b = b := by unfold wrap32; omega
  rw [this, capital_eq]
theorem landOk_eq (s : ByteArray) (h : s.size = 2) : impl_landOk.f s = some (capB (bt s 0) && capB (bt s 1)) := by
  unfold impl_landOk.f
  have p0 : (0 : Int) < (s.size : Int) := by omega
  have p1 : (1 : Int) < (s.size : Int) := by omega
  rw [if_pos (by omega)]
  simp only [if_pos p0, if_pos p1, capital_wrap _ (bt_range s 0).1 (bt_range s 0).2, capital_wrap _ (bt_range s 1).1 (bt_range s 1).2, Option.bind_some]
  cases capB (bt s 0) <;> cases capB (bt s 1) <;> rfl
theorem acc_impl (s : ByteArray) : impl_AccountNumber.f s = some (accOk s) := by
  unfold impl_AccountNumber.f accOk
  by_cases h1 : (s.size : Int) < 8
  · rw [if_pos h1, decide_eq_false (by omega)]; simp
  · rw [if_neg h1]
    by_cases h2 : (s.size : Int) > 30
    · rw [if_pos h2, decide_eq_false (by omega)]; simp
    · rw [if_neg h2, if_pos (by omega), if_pos (by omega), decide_eq_true (by omega), landOk_eq _ (by rw [ByteArray.size_extract]; omega)]
      have e0 : bt (s.extract 0 2) 0 = bt s 0 := by have := bt_ext s 0 2 0 (by omega) (by omega); simpa using this
      have e1 : bt (s.extract 0 2) 1 = bt s 1 := by have := bt_ext s 0 2 1 (by omega) (by omega); simpa using this
      rw [e0, e1]
      have p2 : (2 : Int) < (s.size : Int) := by omega
      have p3 : (3 : Int) < (s.size : Int) := by omega
      have p4 : (4 : Int) ≤ (s.size : Int) := by omega
      have p5 : (0 : Int) ≤ 4 := by omega
      have p6 : (s.extract 4 s.size).size + (s.extract 0 4).size ≤ 9223372036854775807 := by rw [ByteArray.size_extract, ByteArray.size_extract]; omega
      simp only [Option.bind_some, digit_eq, if_pos p2, if_pos p3, if_pos p4, if_pos p5, if_pos p6]
      unfold impl_rest97.f
      simp only [Option.bind_some]
      rw [show s.extract 4 s.size ++ s.extract 0 4 = turned s from rfl]
      cases capB (bt s 0) <;> cases capB (bt s 1) <;> cases digB (bt s 2) <;> cases digB (bt s 3) <;> simp

theorem FnExactAccountNumber : laws_FnExactAccountNumber.Pure := by
  intro a0 ha
  refine ⟨a0.size + 101, ?_⟩
  unfold laws_FnExactAccountNumber.f
  by_cases h : (a0.size : Int) > 1048576
  · rw [if_pos h]
  · rw [if_neg h, acc_spec a0 _ (by omega), acc_impl a0]
    simp only [Option.bind_some]
    rw [if_neg (by simp)]

end Go.Proofs.Ytjmjhpdoealpaaa.Pure
