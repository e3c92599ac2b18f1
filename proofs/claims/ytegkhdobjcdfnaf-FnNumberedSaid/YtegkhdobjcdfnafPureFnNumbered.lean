/- Numbers made are numbers, and one sign changed is found, at every drawn case. Conditions: none. -/
import Derived.Test.YtegkhdobjcdfnafPFnNumberedx0
import Derived.Test.YtegkhdobjcdfnafPFnNumberedx1
import Derived.Test.YtegkhdobjcdfnafPFnNumberedx2
import Derived.Test.YtegkhdobjcdfnafPFnNumberedx3
import Derived.Test.YtegkhdobjcdfnafPFnNumberedx4
import Derived.Test.YtegkhdobjcdfnafPFnNumberedx5
import Derived.Test.YtegkhdobjcdfnafPureAid
import Derived.Test.YtegkhdobjcdfnafWMore
namespace Go.Proofs.Ytegkhdobjcdfnaf.Pure
open Go Go.RowKit Go.Proofs.Ytegkhdobjcdfnaf.PFnNumbered Go.Proofs.YtegkhdobjcdfnafW.PrintWords Go.Proofs.YtegkhdobjcdfnafW.PrintLast Go.Proofs.Ytegkhdobjcdfnaf.Aid
set_option linter.unusedVariables false
set_option linter.unusedSimpArgs false
set_option maxRecDepth 100000
set_option maxHeartbeats 4000000
theorem bt_lt (s : ByteArray) (i : Nat) (h : i < s.size) : bt s (i : Int) = ((s[i]'h).toNat : Int) := by
  unfold bt
  rw [dif_pos (by simpa using h)]
  rfl
theorem bt_app_left (a b : ByteArray) (i : Nat) (h : i < a.size) : bt (a ++ b) (i : Int) = bt a (i : Int) := by
  rw [bt_lt _ _ (by rw [ByteArray.size_append]; omega), bt_lt _ _ h, ByteArray.getElem_append_left h]
theorem bt_app_right (a b : ByteArray) (i : Nat) (h : i < b.size) : bt (a ++ b) ((a.size + i : Nat) : Int) = bt b (i : Int) := by
  rw [bt_lt _ _ (by rw [ByteArray.size_append]; omega), bt_lt _ _ h, ByteArray.getElem_append_right (by omega)]
  simp
theorem bt_ext (s : ByteArray) (u v i : Nat) (h : u + i < v) (hv : v ≤ s.size) : bt (s.extract u v) (i : Int) = bt s ((u + i : Nat) : Int) := by
  rw [bt_lt _ _ (by rw [ByteArray.size_extract]; omega), bt_lt _ _ (by omega), ByteArray.getElem_extract]

def digB (b : Int) : Bool := decide (48 ≤ b ∧ b ≤ 57)
def capB (b : Int) : Bool := decide (65 ≤ b ∧ b ≤ 90)
theorem digB_iff (b : Int) : digB b = true ↔ 48 ≤ b ∧ b ≤ 57 := by unfold digB; rw [decide_eq_true_eq]
theorem capB_iff (b : Int) : capB b = true ↔ 65 ≤ b ∧ b ≤ 90 := by unfold capB; rw [decide_eq_true_eq]
theorem two_dec (a b : Prop) [Decidable a] [Decidable b] : (if a then some (decide b) else some false) = some (decide (a ∧ b)) := by
  by_cases h : a
  · rw [if_pos h]; congr 1; rw [decide_eq_decide]; exact ⟨fun hb => ⟨h, hb⟩, fun hb => hb.2⟩
  · rw [if_neg h]; congr 1; symm; rw [decide_eq_false_iff_not]; exact fun hb => h hb.1
theorem l14Big_eq (b : Int) : spec_l14Big.f b = some (capB b) := by unfold spec_l14Big.f capB; exact two_dec (b ≥ 65) (b ≤ 90)
theorem l9Digit_eq (b : Int) : spec_l9Digit.f b = some (digB b) := by unfold spec_l9Digit.f digB; exact two_dec (b ≥ 48) (b ≤ 57)
theorem capital_eq (b : Int) : impl_capital.f b = some (capB b) := by unfold impl_capital.f capB; exact two_dec (b ≥ 65) (b ≤ 90)
def signB (b : Int) : Bool := capB b || digB b
theorem l14Rest_eq (s : ByteArray) (hs : s.size ≤ 9223372036854775807) (k : Nat) (hk : s.size < k) : spec_l14Rest.f k s = some (scan (fun j => if signB (bt s j) = true then none else some false) true s.size 0) := by
  unfold spec_l14Rest.f
  have step : ∀ (k i : Nat), i < s.size → spec_l14Rest.l0 (k + 1) s (i : Int) = if signB (bt s i) = true then spec_l14Rest.l0 k s ((i + 1 : Nat) : Int) else some false := by
    intro k i hi
    simp only [spec_l14Rest.l0]
    rw [if_pos (by omega), if_pos (by omega), w64i hi hs, l14Big_eq]
    simp only [Option.bind_some, l9Digit_eq]
    unfold signB
    cases capB (bt s i) <;> cases digB (bt s i) <;> simp
  refine loop_scan0 (fun k i => spec_l14Rest.l0 k s i) s.size 0 _ true ?_ ?_ ?_ k (by omega)
  · intro k i r _ hi h
    rw [step k i hi]
    split at h
    · cases h
    · rename_i hb; rw [if_neg hb]; exact h
  · intro k i _ hi h
    rw [step k i hi]
    split at h
    · rename_i hb; rw [if_pos hb]
    · cases h
  · intro k _
    simp only [spec_l14Rest.l0]
    rw [if_neg (by omega)]
/-- The rest by 97 of signs that are all digits or capitals. -/
def modL (s : ByteArray) : Nat → Nat → Int → Int
  | 0, _, n => n
  | d + 1, i, n => if digB (bt s i) = true then modL s d (i + 1) ((n * 10 + (bt s i - 48)) % 97) else modL s d (i + 1) ((n * 100 + (bt s i - 65) + 10) % 97)
theorem modL_range (s : ByteArray) : ∀ (d i : Nat) (n : Int), 0 ≤ n → n < 97 → 0 ≤ modL s d i n ∧ modL s d i n < 97 := by
  intro d
  induction d with
  | zero => intro i n h0 h1; exact ⟨h0, h1⟩
  | succ d ih =>
    intro i n h0 h1
    unfold modL
    split
    · exact ih _ _ (by omega) (by omega)
    · exact ih _ _ (by omega) (by omega)
theorem l14Mod_loop (s : ByteArray) (hs : s.size ≤ 9223372036854775807) (ho : ∀ j, j < s.size → signB (bt s (j : Nat)) = true) : ∀ (d i k : Nat) (n : Int), i + d = s.size → d < k → 0 ≤ n → n < 97 → spec_l14Mod.l0 k s n (i : Int) = some (modL s d i n) := by
  intro d
  induction d with
  | zero =>
    intro i k n hi hk _ _
    obtain ⟨k, rfl⟩ : ∃ m, k = m + 1 := ⟨k - 1, by omega⟩
    simp only [spec_l14Mod.l0]
    rw [if_neg (by omega)]
    rfl
  | succ d ih =>
    intro i k n hi hk h0 h1
    obtain ⟨k, rfl⟩ : ∃ m, k = m + 1 := ⟨k - 1, by omega⟩
    simp only [spec_l14Mod.l0]
    rw [if_pos (by omega), if_pos (by omega), w64i (show i < s.size by omega) hs, l9Digit_eq]
    simp only [Option.bind_some]
    unfold modL
    have hb := ho i (by omega)
    unfold signB at hb
    rw [Bool.or_eq_true, digB_iff, capB_iff] at hb
    by_cases hd : digB (bt s i) = true
    · rw [if_pos hd, if_pos hd]
      rw [digB_iff] at hd
      have e : Int.tmod (wrap64 (wrap64 (n * 10) + (bt s i - 48) % 256)) 97 = (n * 10 + (bt s i - 48)) % 97 := by
        rw [w64 (x := n * 10) (by omega) (by omega), w64 (by omega) (by omega), Int.tmod_eq_emod_of_nonneg (by omega)]
        omega
      rw [e]
      exact ih (i + 1) k _ (by omega) (by omega) (by omega) (by omega)
    · rw [if_neg hd, if_neg hd]
      rw [digB_iff] at hd
      have e : Int.tmod (wrap64 (wrap64 (wrap64 (n * 100) + (bt s i - 65) % 256) + 10)) 97 = (n * 100 + (bt s i - 65) + 10) % 97 := by
        rw [w64 (x := n * 100) (by omega) (by omega), w64 (x := n * 100 + _) (by omega) (by omega), w64 (by omega) (by omega), Int.tmod_eq_emod_of_nonneg (by omega)]
        omega
      rw [e]
      exact ih (i + 1) k _ (by omega) (by omega) (by omega) (by omega)
theorem l14Mod_eq (s : ByteArray) (hs : s.size ≤ 9223372036854775807) (ho : ∀ j, j < s.size → signB (bt s (j : Nat)) = true) (k : Nat) (hk : s.size < k) : spec_l14Mod.f k s = some (modL s s.size 0 0) := by
  unfold spec_l14Mod.f
  exact l14Mod_loop s hs ho s.size 0 k 0 (by omega) hk (by omega) (by omega)
theorem rest97_good (s : ByteArray) (ho : ∀ j, j < s.size → signB (bt s (j : Nat)) = true) : ∀ (d i : Nat) (n : Int), i + d = s.size → impl_rest97.L s d i n = modL s d i n := by
  intro d
  induction d with
  | zero => intro i n _; rfl
  | succ d ih =>
    intro i n hi
    unfold impl_rest97.L modL
    have hb := ho i (by omega)
    unfold signB at hb
    rw [Bool.or_eq_true, digB_iff, capB_iff] at hb
    by_cases hd : digB (bt s i) = true
    · rw [if_pos hd, if_pos ((digB_iff _).1 hd)]
      exact ih (i + 1) _ (by omega)
    · rw [if_neg hd]
      rw [digB_iff] at hd
      rw [if_neg hd, if_pos (by omega)]
      exact ih (i + 1) _ (by omega)
theorem rest97_bad (s : ByteArray) : ∀ (d i : Nat) (n : Int), (∃ j, i ≤ j ∧ j < i + d ∧ signB (bt s (j : Nat)) ≠ true) → impl_rest97.L s d i n = -1 := by
  intro d
  induction d with
  | zero => intro i n ⟨j, h1, h2, _⟩; omega
  | succ d ih =>
    intro i n ⟨j, h1, h2, h3⟩
    unfold impl_rest97.L
    by_cases hi : signB (bt s i) = true
    · have hj : i + 1 ≤ j := by
        rcases Nat.eq_or_lt_of_le h1 with rfl | h
        · exact absurd hi h3
        · exact h
      unfold signB at hi
      rw [Bool.or_eq_true, digB_iff, capB_iff] at hi
      by_cases hd : 48 ≤ bt s i ∧ bt s i ≤ 57
      · rw [if_pos hd]; exact ih _ _ ⟨j, hj, by omega, h3⟩
      · rw [if_neg hd, if_pos (by omega)]; exact ih _ _ ⟨j, hj, by omega, h3⟩
    · unfold signB at hi
      rw [Bool.or_eq_true, digB_iff, capB_iff] at hi
      rw [if_neg (fun h => hi (.inr h)), if_neg (fun h => hi (.inl h))]
/-- The signs in the order in which they are reckoned. -/
def turned (s : ByteArray) : ByteArray := s.extract 4 s.size ++ s.extract 0 4
theorem turned_size (s : ByteArray) (h : 4 ≤ s.size) : (turned s).size = s.size := by
  unfold turned
  rw [ByteArray.size_append, ByteArray.size_extract, ByteArray.size_extract]
  omega
theorem turned_low (s : ByteArray) (h : 4 ≤ s.size) (j : Nat) (hj : j < s.size - 4) : bt (turned s) (j : Nat) = bt s ((4 + j : Nat) : Int) := by
  unfold turned
  rw [bt_app_left _ _ _ (by rw [ByteArray.size_extract]; omega), bt_ext _ _ _ _ (by omega) (Nat.le_refl _)]
theorem turned_high (s : ByteArray) (h : 4 ≤ s.size) (j : Nat) (hj : j < 4) : bt (turned s) ((s.size - 4 + j : Nat) : Int) = bt s (j : Int) := by
  have hz : (s.extract 4 s.size).size = s.size - 4 := by rw [ByteArray.size_extract]; omega
  unfold turned
  rw [← hz, bt_app_right _ _ _ (by rw [ByteArray.size_extract]; omega), bt_ext _ _ _ _ (by omega) (by omega), Nat.zero_add]
theorem turned_all (s : ByteArray) (h : 4 ≤ s.size) (p : Int → Bool) : (∀ j, j < s.size → p (bt s (j : Nat)) = true) ↔ (∀ j, j < (turned s).size → p (bt (turned s) (j : Nat)) = true) := by
  rw [turned_size s h]
  constructor
  · intro ha j hj
    by_cases hl : j < s.size - 4
    · rw [turned_low s h j hl]; exact ha _ (by omega)
    · obtain ⟨m, rfl⟩ : ∃ m, j = s.size - 4 + m := ⟨j - (s.size - 4), by omega⟩
      rw [turned_high s h m (by omega)]; exact ha m (by omega)
  · intro ha j hj
    by_cases hl : j < 4
    · rw [← turned_high s h j hl]; exact ha _ (by omega)
    · obtain ⟨m, rfl⟩ : ∃ m, j = 4 + m := ⟨j - 4, by omega⟩
      rw [← turned_low s h m (by omega)]; exact ha m (by omega)
/-- What an account's number is. -/
def accOk (s : ByteArray) : Bool := decide (8 ≤ s.size ∧ s.size ≤ 30) && capB (bt s 0) && capB (bt s 1) && digB (bt s 2) && digB (bt s 3) && (impl_rest97.L (turned s) (turned s).size 0 0 == 1)
theorem acc_spec (s : ByteArray) (k : Nat) (hk : s.size + 100 < k) : spec_AccountNumber.f k s = some (accOk s) := by
  unfold spec_AccountNumber.f spec_l1In.f accOk
  rw [two_dec]
  simp only [Option.bind_some]
  by_cases hs : 8 ≤ s.size ∧ s.size ≤ 30
  · rw [if_pos (decide_eq_true (by omega)), decide_eq_true hs, l14Rest_eq s (by omega) k (by omega)]
    simp only [Option.bind_some]
    by_cases ho : ∀ j, j < s.size → signB (bt s (j : Nat)) = true
    · rw [(scan_all s.size 0).2 (fun j _ h => ho j (by omega)), if_pos rfl, if_pos (by omega)]
      have ht := (turned_all s (by omega) signB).1 ho
      have hz := turned_size s (by omega)
      have p0 : (0 : Int) < (s.size : Int) := by omega
      have p1 : (1 : Int) < (s.size : Int) := by omega
      have p2 : (2 : Int) < (s.size : Int) := by omega
      have p3 : (3 : Int) < (s.size : Int) := by omega
      have p4 : (4 : Int) ≤ (s.size : Int) := by omega
      have p5 : (0 : Int) ≤ 4 := by omega
      have p6 : (s.extract 4 s.size).size + (s.extract 0 4).size ≤ 9223372036854775807 := by rw [ByteArray.size_extract, ByteArray.size_extract]; omega
      simp only [l14Big_eq, l9Digit_eq, Option.bind_some, if_pos p1, if_pos p2, if_pos p3, if_pos p4, if_pos p5, if_pos p6]
      rw [show s.extract 4 s.size ++ s.extract 0 4 = turned s from rfl, l14Mod_eq (turned s) (by omega) ht k (by omega), rest97_good (turned s) ht _ _ _ (by omega)]
      simp only [Option.bind_some]
      cases capB (bt s 0) <;> cases capB (bt s 1) <;> cases digB (bt s 2) <;> cases digB (bt s 3) <;> simp
    · have hf : scan (fun j => if signB (bt s (j : Nat)) = true then none else some false) true s.size 0 = false := by
        rw [← Bool.not_eq_true, scan_all]
        exact fun h => ho (fun j hj => h j (by omega) (by omega))
      have ht : ∃ j, 0 ≤ j ∧ j < 0 + (turned s).size ∧ signB (bt (turned s) (j : Nat)) ≠ true := by
        rw [turned_all s (by omega) signB] at ho
        rcases Classical.not_forall.1 ho with ⟨j, hj⟩
        rcases Classical.not_imp.1 hj with ⟨h1, h2⟩
        exact ⟨j, by omega, by omega, h2⟩
      rw [hf, rest97_bad (turned s) _ 0 0 ht]
      simp
  · rw [if_neg (by simp only [decide_eq_true_eq]; omega), decide_eq_false hs]
    simp
theorem capital_wrap (b : Int) (h0 : 0 ≤ b) (h1 : b ≤ 255) : impl_capital.f (wrap32 b) = some (capB b) := by
  have : wrap32 b = b := by unfold wrap32; omega
  rw [this, capital_eq]
theorem landOk_eq (s : ByteArray) (h : s.size = 2) : impl_landOk.f s = some (capB (bt s 0) && capB (bt s 1)) := by
  unfold impl_landOk.f
  have p0 : (0 : Int) < (s.size : Int) := by omega
  have p1 : (1 : Int) < (s.size : Int) := by omega
  rw [if_pos (by omega)]
  simp only [if_pos p0, if_pos p1, capital_wrap _ (bt_range s 0).1 (bt_range s 0).2, capital_wrap _ (bt_range s 1).1 (bt_range s 1).2, Option.bind_some]
  cases capB (bt s 0) <;> cases capB (bt s 1) <;> rfl

def bs (l : List UInt8) : ByteArray := ⟨l.toArray⟩
theorem bs_toList (l : List UInt8) : (bs l).toList = l := ByteArray.toList_mk l
theorem bs_size (l : List UInt8) : (bs l).size = l.length := by unfold bs; simp [ByteArray.size]
theorem bs_app (a b : List UInt8) : bs a ++ bs b = bs (a ++ b) := by
  unfold bs
  apply ByteArray.ext
  simp
theorem bs_ext (l : List UInt8) (u v : Nat) : (bs l).extract u v = bs ((l.take v).drop u) := by
  unfold bs
  apply ByteArray.ext
  simp [ByteArray.data_extract, List.extract_eq_take_drop, List.drop_take]
def dg (n : Nat) : UInt8 := UInt8.ofNat (48 + n)
/-- The digits of a number, b of them at most. -/
def digF : Nat → Nat → List UInt8
  | 0, n => [dg n]
  | b + 1, n => if n < 10 then [dg n] else digF b (n / 10) ++ [dg (n % 10)]
theorem digF_more : ∀ (b c n : Nat), n ≤ b → n ≤ c → digF b n = digF c n := by
  intro b
  induction b with
  | zero =>
    intro c n h1 h2
    obtain rfl : n = 0 := by omega
    cases c <;> rfl
  | succ b ih =>
    intro c n h1 h2
    cases c with
    | zero => obtain rfl : n = 0 := by omega
              rfl
    | succ c =>
      unfold digF
      by_cases h : n < 10
      · rw [if_pos h, if_pos h]
      · rw [if_neg h, if_neg h, ih c (n / 10) (by omega) (by omega)]
/-- The digits of a number. -/
def dig (n : Nat) : List UInt8 := digF n n
theorem dig_lt (n : Nat) (h : n < 10) : dig n = [dg n] := by
  unfold dig
  cases n with
  | zero => rfl
  | succ n => unfold digF; rw [if_pos h]
theorem dig_ge (n : Nat) (h : ¬ n < 10) : dig n = dig (n / 10) ++ [dg (n % 10)] := by
  unfold dig
  obtain ⟨m, rfl⟩ : ∃ m, n = m + 1 := ⟨n - 1, by omega⟩
  rw [digF_more ((m + 1) / 10) m ((m + 1) / 10) (Nat.le_refl _) (by omega)]
  show (if m + 1 < 10 then _ else _) = _
  rw [if_neg h]
theorem dig_len : ∀ (m n : Nat), n < 10 ^ m → 1 ≤ (dig n).length ∧ ((dig n).length ≤ m ∨ (dig n).length = 1) := by
  intro m
  induction m with
  | zero => intro n h; rw [Nat.pow_zero] at h; rw [dig_lt n (by omega)]; simp
  | succ m ih =>
    intro n h
    by_cases h10 : n < 10
    · rw [dig_lt n h10]; simp
    · rw [dig_ge n h10, List.length_append, List.length_singleton]
      have := ih (n / 10) (by rw [Nat.pow_succ] at h; omega)
      have h3 : 0 < m := by
        rcases Nat.eq_zero_or_pos m with h | h4
        · subst h; simp at h; omega
        · exact h4
      omega
theorem lit_at : ∀ n, n < 10 → (⟨#[48, 49, 50, 51, 52, 53, 54, 55, 56, 57]⟩ : ByteArray).extract n (n + 1) = bs [dg n] := by decide
theorem lit_atI (n : Nat) (h : n < 10) : (⟨#[48, 49, 50, 51, 52, 53, 54, 55, 56, 57]⟩ : ByteArray).extract (n : Int).toNat (wrap64 ((n : Int) + 1)).toNat = bs [dg n] := by
  have e : (wrap64 ((n : Int) + 1)).toNat = n + 1 := by unfold wrap64; omega
  rw [e, Int.toNat_natCast]
  exact lit_at n h
theorem tdiv10 (n : Nat) (h : n ≤ 9223372036854775807) : wrap64 (Int.tdiv (n : Int) 10) = ((n / 10 : Nat) : Int) := by
  rw [Int.tdiv_eq_ediv_of_nonneg (by omega), w64 (by omega) (by omega)]; omega
theorem tmod10 (n : Nat) : Int.tmod (n : Int) 10 = ((n % 10 : Nat) : Int) := by
  rw [Int.tmod_eq_emod_of_nonneg (by omega)]; omega

theorem l1Text_small (n k : Nat) (h10 : n < 10) : spec_l1Text.f (k + 1) (n : Int) = some (bs (dig n)) := by
  simp only [spec_l1Text.f]
  rw [if_neg (by omega)]
  have e : wrap64 ((n : Int) + 1) = (n : Int) + 1 := w64 (by omega) (by omega)
  rw [if_pos (by omega), if_pos (by omega), if_pos (by omega), if_pos (by omega), lit_atI n h10, dig_lt n h10]
theorem text_tail (t : ByteArray) (m : Nat) (hm : m < 10) (hz : t.size ≤ 1000) : (if 0 ≤ (m : Int) then (if (m : Int) ≤ wrap64 ((m : Int) + 1) then (if wrap64 ((m : Int) + 1) ≤ 10 then (if t.size + ((⟨#[48, 49, 50, 51, 52, 53, 54, 55, 56, 57]⟩ : ByteArray).extract (m : Int).toNat (wrap64 ((m : Int) + 1)).toNat).size ≤ 9223372036854775807 then (some (t ++ ((⟨#[48, 49, 50, 51, 52, 53, 54, 55, 56, 57]⟩ : ByteArray).extract (m : Int).toNat (wrap64 ((m : Int) + 1)).toNat))) else none) else none) else none) else none) = some (t ++ bs [dg m]) := by
  rw [lit_atI m hm]
  have e : wrap64 ((m : Int) + 1) = (m : Int) + 1 := w64 (by omega) (by omega)
  have hq : t.size + (bs [dg m]).size ≤ 9223372036854775807 := by rw [bs_size, List.length_singleton]; omega
  rw [e, if_pos (by omega), if_pos (by omega), if_pos (by omega), if_pos hq]
theorem l1Text_big (n k : Nat) (l : List UInt8) (h10 : ¬ n < 10) (hn : n ≤ 9223372036854775807) (hl : l.length ≤ 1000) (ht : spec_l1Text.f k ((n / 10 : Nat) : Int) = some (bs l)) : spec_l1Text.f (k + 1) (n : Int) = some (bs (l ++ [dg (n % 10)])) := by
  have hz : (bs l).size ≤ 1000 := by rw [bs_size]; exact hl
  have hm : n % 10 < 10 := Nat.mod_lt _ (by omega)
  have e := text_tail (bs l) (n % 10) hm hz
  simp only [spec_l1Text.f]
  rw [if_neg (by omega), if_neg (by omega), tdiv10 n hn, ht, tmod10 n, Option.bind_some, e, bs_app]
theorem l1Text_eq : ∀ (m n k : Nat), n < 10 ^ m → n ≤ 9223372036854775807 → m ≤ 100 → m < k → spec_l1Text.f k (n : Int) = some (bs (dig n)) := by
  intro m
  induction m with
  | zero =>
    intro n k h _ _ hk
    obtain ⟨k, rfl⟩ : ∃ q, k = q + 1 := ⟨k - 1, by omega⟩
    rw [Nat.pow_zero] at h
    exact l1Text_small n k (by omega)
  | succ m ih =>
    intro n k h hn hm hk
    obtain ⟨k, rfl⟩ : ∃ q, k = q + 1 := ⟨k - 1, by omega⟩
    by_cases h10 : n < 10
    · exact l1Text_small n k h10
    · have hp : n / 10 < 10 ^ m := by rw [Nat.pow_succ] at h; omega
      have hlen := dig_len m (n / 10) hp
      have hd : n / 10 ≤ n := Nat.div_le_self _ _
      rw [dig_ge n h10]
      exact l1Text_big n k _ h10 hn (by omega) (ih (n / 10) k hp (Nat.le_trans hd hn) (by omega) (by omega))

theorem digit_num (n : Nat) : strOfNums ([wrap64 (48 + Int.tmod (n : Int) 10) % 256] : List Int) = bs [dg (n % 10)] := by
  rw [tmod10 n, w64 (by omega) (by omega)]
  unfold strOfNums bs dg
  have e : ((48 + ((n % 10 : Nat) : Int)) % 256) = ((48 + n % 10 : Nat) : Int) := by omega
  rw [e]
  rfl
theorem decLoop_end (k : Nat) (acc : ByteArray) : impl_decimal.l0 (k + 1) ((0 : Nat) : Int) acc = some acc := by
  simp only [impl_decimal.l0]
  rw [if_neg (by omega)]
theorem decLoop_go (n k : Nat) (acc : List UInt8) (h0 : n ≠ 0) (hn : n ≤ 9223372036854775807) (hl : acc.length ≤ 1000) : impl_decimal.l0 (k + 1) (n : Int) (bs acc) = impl_decimal.l0 k ((n / 10 : Nat) : Int) (bs (dg (n % 10) :: acc)) := by
  have hz : (bs [dg (n % 10)]).size + (bs acc).size ≤ 9223372036854775807 := by rw [bs_size, bs_size, List.length_singleton]; omega
  simp only [impl_decimal.l0, Option.bind_some]
  rw [if_pos (by omega), digit_num n, tdiv10 n hn, if_pos hz, bs_app]; rfl
theorem decLoop : ∀ (m n k : Nat) (acc : List UInt8), n < 10 ^ m → n ≤ 9223372036854775807 → m < k → acc.length + m ≤ 1000 → impl_decimal.l0 k (n : Int) (bs acc) = some (bs ((if n = 0 then [] else dig n) ++ acc)) := by
  intro m
  induction m with
  | zero =>
    intro n k acc h _ hk _
    obtain ⟨k, rfl⟩ : ∃ q, k = q + 1 := ⟨k - 1, by omega⟩
    rw [Nat.pow_zero] at h
    obtain rfl : n = 0 := by omega
    exact decLoop_end k _
  | succ m ih =>
    intro n k acc h hn hk hl
    obtain ⟨k, rfl⟩ : ∃ q, k = q + 1 := ⟨k - 1, by omega⟩
    by_cases h0 : n = 0
    · subst h0; exact decLoop_end k _
    · have hp : n / 10 < 10 ^ m := by rw [Nat.pow_succ] at h; omega
      have hd : n / 10 ≤ n := Nat.div_le_self _ _
      rw [decLoop_go n k acc h0 hn (by omega), ih (n / 10) k _ hp (Nat.le_trans hd hn) (by omega) (by simp; omega), if_neg h0]
      by_cases h10 : n < 10
      · rw [if_pos (by omega), dig_lt n h10, show n % 10 = n by omega]; rfl
      · rw [if_neg (by omega), dig_ge n h10, List.append_assoc]; rfl
theorem decimal_go (n k : Nat) (hn : n ≤ 9223372036854775807) : impl_decimal.f (k + 1) (n : Int) = impl_decimal.l0 k ((n / 10 : Nat) : Int) (bs [dg (n % 10)]) := by
  simp only [impl_decimal.f]
  rw [if_neg (by omega), digit_num n, tdiv10 n hn]
theorem decimal_eq (m n k : Nat) (h : n < 10 ^ m) (hn : n ≤ 9223372036854775807) (hm : m ≤ 500) (hk : m + 1 < k) : impl_decimal.f k (n : Int) = some (bs (dig n)) := by
  obtain ⟨k, rfl⟩ : ∃ q, k = q + 1 := ⟨k - 1, by omega⟩
  have hd : n / 10 ≤ n := Nat.div_le_self _ _
  rw [decimal_go n k hn, decLoop m (n / 10) k _ (Nat.lt_of_le_of_lt hd h) (Nat.le_trans hd hn) (by omega) (by simp; omega)]
  by_cases h10 : n < 10
  · rw [if_pos (by omega), dig_lt n h10, show n % 10 = n by omega]; rfl
  · rw [if_neg (by omega), dig_ge n h10]

/-- p digits of a number, the last ones. -/
def fx : Nat → Nat → List UInt8
  | 0, _ => []
  | p + 1, n => fx p (n / 10) ++ [dg (n % 10)]
theorem fx_len : ∀ (p n : Nat), (fx p n).length = p := by
  intro p
  induction p with
  | zero => intro n; rfl
  | succ p ih => intro n; unfold fx; rw [List.length_append, ih]; rfl
theorem fx_zero : ∀ p, fx p 0 = List.replicate p 48 := by
  intro p
  induction p with
  | zero => rfl
  | succ p ih => unfold fx; rw [Nat.zero_div, ih, List.replicate_succ']; rfl
theorem fx_mod : ∀ (p n : Nat), fx p (n % 10 ^ p) = fx p n := by
  intro p
  induction p with
  | zero => intro n; rfl
  | succ p ih =>
    intro n
    unfold fx
    have h1 : n % 10 ^ (p + 1) / 10 = (n / 10) % 10 ^ p := by
      rw [Nat.pow_succ, Nat.mul_comm, Nat.mod_mul_right_div_self]
    have h2 : n % 10 ^ (p + 1) % 10 = n % 10 := by
      rw [Nat.pow_succ, Nat.mul_comm, Nat.mod_mul_right_mod]
    rw [h1, h2, ih]
theorem dig_one : ∀ (p r : Nat), r < 10 ^ p → dig (10 ^ p + r) = 49 :: fx p r := by
  intro p
  induction p with
  | zero => intro r h; rw [Nat.pow_zero] at h; obtain rfl : r = 0 := by omega
            rw [Nat.pow_zero, Nat.add_zero, dig_lt 1 (by omega)]; rfl
  | succ p ih =>
    intro r h
    rw [Nat.pow_succ] at h
    have hp : 0 < 10 ^ p := Nat.pow_pos (by omega)
    rw [Nat.pow_succ, dig_ge _ (by omega), show (10 ^ p * 10 + r) / 10 = 10 ^ p + r / 10 by omega, show (10 ^ p * 10 + r) % 10 = r % 10 by omega, ih (r / 10) (by omega)]
    rfl
def padz (p n : Nat) : List UInt8 := List.replicate (p + 1 - (dig n).length) 48 ++ dig n
theorem padz_eq : ∀ (p n : Nat), padz p n = dig (n / 10 ^ p) ++ fx p n := by
  intro p
  induction p with
  | zero =>
    intro n
    unfold padz fx
    have : 1 ≤ (dig n).length := (dig_len (n + 1) n (by exact Nat.lt_of_lt_of_le (Nat.lt_pow_self (by omega)) (Nat.pow_le_pow_right (by omega) (Nat.le_succ n)))).1
    rw [show 0 + 1 - (dig n).length = 0 by omega]
    simp
  | succ p ih =>
    intro n
    unfold fx
    by_cases h10 : n < 10
    · have hq : n / 10 ^ (p + 1) = 0 := by
        apply Nat.div_eq_of_lt
        have : 10 ≤ 10 ^ (p + 1) := by rw [Nat.pow_succ]; have := Nat.pow_pos (n := p) (show 0 < 10 by omega); omega
        omega
      rw [hq, show n / 10 = 0 by omega, fx_zero, show n % 10 = n by omega]
      unfold padz
      rw [dig_lt n h10, dig_lt 0 (by omega), List.length_singleton, show p + 1 + 1 - 1 = p + 1 by omega, List.replicate_succ]
      rfl
    · have h2 := ih (n / 10)
      unfold padz at h2 ⊢
      rw [dig_ge n h10, List.length_append, List.length_singleton, show p + 1 + 1 - ((dig (n / 10)).length + 1) = p + 1 - (dig (n / 10)).length by omega, ← List.append_assoc, h2, Nat.div_div_eq_div_mul, Nat.pow_succ, Nat.mul_comm 10, List.append_assoc]

theorem bs_self (s : ByteArray) : bs s.data.toList = s := by
  unfold bs
  apply ByteArray.ext
  simp
theorem bt_bs (l : List UInt8) (i : Nat) (h : i < l.length) : bt (bs l) (i : Int) = ((l[i]'h).toNat : Int) := by
  rw [bt_lt (bs l) i (by rw [bs_size]; exact h)]
  rfl

theorem dg_val (n : Nat) (h : n < 10) : ((dg n).toNat : Int) = 48 + n := by
  rcases (by omega : n = 0 ∨ n = 1 ∨ n = 2 ∨ n = 3 ∨ n = 4 ∨ n = 5 ∨ n = 6 ∨ n = 7 ∨ n = 8 ∨ n = 9) with rfl | rfl | rfl | rfl | rfl | rfl | rfl | rfl | rfl | rfl <;> rfl
/-- The rest by 97 of signs, if they are all digits or capitals. -/
def restO : List UInt8 → Int → Option Int
  | [], n => some n
  | b :: l, n => if 48 ≤ (b.toNat : Int) ∧ (b.toNat : Int) ≤ 57 then restO l ((n * 10 + ((b.toNat : Int) - 48)) % 97) else if 65 ≤ (b.toNat : Int) ∧ (b.toNat : Int) ≤ 90 then restO l ((n * 100 + ((b.toNat : Int) - 65) + 10) % 97) else none
theorem restO_app : ∀ (a b : List UInt8) (n : Int), restO (a ++ b) n = (restO a n).bind (restO b) := by
  intro a
  induction a with
  | nil => intro b n; rfl
  | cons x a ih =>
    intro b n
    show restO (x :: (a ++ b)) n = (restO (x :: a) n).bind (restO b)
    unfold restO
    split
    · exact ih b _
    · split
      · exact ih b _
      · rfl
theorem restO_range : ∀ (l : List UInt8) (n m : Int), 0 ≤ n → n < 97 → restO l n = some m → 0 ≤ m ∧ m < 97 := by
  intro l
  induction l with
  | nil => intro n m h0 h1 h; unfold restO at h; injection h with h; omega
  | cons x l ih =>
    intro n m h0 h1 h
    unfold restO at h
    split at h
    · exact ih _ m (by omega) (by omega) h
    · split at h
      · exact ih _ m (by omega) (by omega) h
      · cases h
theorem restL_drop (l : List UInt8) : ∀ (d i : Nat) (n : Int), i + d = l.length → impl_rest97.L (bs l) d i n = (restO (l.drop i) n).getD (-1) := by
  intro d
  induction d with
  | zero => intro i n hi; rw [List.drop_of_length_le (by omega)]; rfl
  | succ d ih =>
    intro i n hi
    have hl : i < l.length := by omega
    rw [List.drop_eq_getElem_cons hl]
    unfold impl_rest97.L restO
    rw [bt_bs l i hl]
    split
    · exact ih (i + 1) _ (by omega)
    · split
      · exact ih (i + 1) _ (by omega)
      · rfl
theorem restL_bs (l : List UInt8) : impl_rest97.L (bs l) (bs l).size 0 0 = (restO l 0).getD (-1) := by
  rw [bs_size, restL_drop l l.length 0 0 (by omega), List.drop_zero]
theorem getD_one (o : Option Int) : (o.getD (-1) == 1) = (o == some 1) := by
  cases o with
  | none => rfl
  | some v => rfl
theorem accOk_bs (x y c d : UInt8) (r : List UInt8) : accOk (bs (x :: y :: c :: d :: r)) = (decide (4 ≤ r.length ∧ r.length ≤ 26) && (capB x.toNat && (capB y.toNat && (digB c.toNat && (digB d.toNat && (restO (r ++ [x, y, c, d]) 0 == some 1)))))) := by
  have ht : turned (bs (x :: y :: c :: d :: r)) = bs (r ++ [x, y, c, d]) := by
    unfold turned
    rw [bs_size, bs_ext, bs_ext, bs_app, List.take_length]
    rfl
  unfold accOk
  rw [ht, restL_bs, getD_one]
  have e0 : bt (bs (x :: y :: c :: d :: r)) 0 = (x.toNat : Int) := bt_bs _ 0 (by simp)
  have e1 : bt (bs (x :: y :: c :: d :: r)) 1 = (y.toNat : Int) := bt_bs _ 1 (by simp)
  have e2 : bt (bs (x :: y :: c :: d :: r)) 2 = (c.toNat : Int) := bt_bs _ 2 (by simp)
  have e3 : bt (bs (x :: y :: c :: d :: r)) 3 = (d.toNat : Int) := bt_bs _ 3 (by simp)
  have e4 : decide (8 ≤ (bs (x :: y :: c :: d :: r)).size ∧ (bs (x :: y :: c :: d :: r)).size ≤ 30) = decide (4 ≤ r.length ∧ r.length ≤ 26) := by
    rw [bs_size, decide_eq_decide]; simp only [List.length_cons]; omega
  rw [e0, e1, e2, e3, e4]
  simp only [Bool.and_assoc]
def two (n : Nat) : List UInt8 := fx 2 n
theorem two_eq (n : Nat) (h : n < 100) : two n = [dg (n / 10), dg (n % 10)] := by
  show fx 1 (n / 10) ++ [dg (n % 10)] = _
  show (fx 0 (n / 10 / 10) ++ [dg (n / 10 % 10)]) ++ [dg (n % 10)] = _
  rw [show n / 10 % 10 = n / 10 by omega]
  rfl
theorem rest_two (l : List UInt8) (n : Nat) (h : n < 100) : restO (l ++ two n) 0 = (restO l 0).map (fun m => (m * 100 + (n : Int)) % 97) := by
  rw [restO_app, two_eq n h]
  cases restO l 0 with
  | none => rfl
  | some m =>
    show restO [dg (n / 10), dg (n % 10)] m = some _
    unfold restO
    rw [dg_val (n / 10) (by omega), if_pos (by omega)]
    unfold restO
    rw [dg_val (n % 10) (by omega), if_pos (by omega)]
    unfold restO
    congr 1
    show _ = (m * 100 + (n : Int)) % 97
    omega
/-- The number that is made of a land and a rest. -/
def made (land rest : List UInt8) : List UInt8 :=
  match land with
  | [x, y] => if (capB x.toNat && capB y.toNat && decide (4 ≤ rest.length ∧ rest.length ≤ 26)) = true then
      (match restO (rest ++ [x, y]) 0 with
      | some m => [x, y] ++ two (98 - ((m * 100) % 97)).toNat ++ rest
      | none => [])
    else []
  | _ => []
theorem landOk_ne (s : ByteArray) (h : s.size ≠ 2) : impl_landOk.f s = some false := by
  unfold impl_landOk.f
  rw [if_neg (by omega)]
theorem len_two (l : List UInt8) (h : l.length = 2) : ∃ x y, l = [x, y] := by
  match l, h with
  | [x, y], _ => exact ⟨x, y, rfl⟩
theorem acc_two (x y : UInt8) (n : Nat) (h : n < 100) (r : List UInt8) : accOk (bs ([x, y] ++ two n ++ r)) = (decide (4 ≤ r.length ∧ r.length ≤ 26) && (capB x.toNat && (capB y.toNat && ((restO (r ++ [x, y]) 0).map (fun m => (m * 100 + (n : Int)) % 97) == some 1)))) := by
  rw [← rest_two _ n h, two_eq n h]
  show accOk (bs (x :: y :: dg (n / 10) :: dg (n % 10) :: r)) = _
  rw [accOk_bs, (digB_iff _).2 (by rw [dg_val (n / 10) (by omega)]; omega), (digB_iff _).2 (by rw [dg_val (n % 10) (by omega)]; omega), Bool.true_and, Bool.true_and, List.append_assoc]
  rfl

theorem make_two (n : Nat) (h : n < 100) (k : Nat) (hk : 10 ≤ k) : ∃ t, impl_decimal.f k (n : Int) = some (bs t) ∧ t.length ≤ 2 ∧ 1 ≤ t.length ∧ (if t.length = 1 then [48] ++ t else t) = two n := by
  refine ⟨dig n, decimal_eq 2 n k (by omega) (by omega) (by omega) (by omega), ?_, ?_, ?_⟩
  · have := dig_len 2 n (by omega); omega
  · exact (dig_len 2 n (by omega)).1
  · rw [two_eq n h]
    by_cases h10 : n < 10
    · rw [dig_lt n h10, if_pos (show [dg n].length = 1 from rfl), show n / 10 = 0 by omega, show n % 10 = n by omega]; rfl
    · rw [dig_ge n h10, dig_lt (n / 10) (by omega), if_neg (by simp)]; rfl
theorem make_impl (a b : List UInt8) (hb : b.length ≤ 1048576) (k : Nat) (hk : 30 ≤ k) : impl_MakeNumber.f k (bs a) (bs b) = some (bs (made a b)) := by
  obtain ⟨k, rfl⟩ : ∃ q, k = q + 2 := ⟨k - 2, by omega⟩
  unfold impl_MakeNumber.f
  have jt : impl_MakeNumber.j0 (k + 2) (bs a) (bs b) true = some (bs []) := by simp only [impl_MakeNumber.j0]; rfl
  by_cases h2 : a.length = 2
  · obtain ⟨x, y, rfl⟩ := len_two a h2
    have e0 : bt (bs [x, y]) 0 = (x.toNat : Int) := bt_bs _ 0 (by simp)
    have e1 : bt (bs [x, y]) 1 = (y.toNat : Int) := bt_bs _ 1 (by simp)
    rw [landOk_eq _ (by rw [bs_size]; exact h2), Option.bind_some, e0, e1]
    unfold made
    dsimp only
    cases hc : (capB x.toNat && capB y.toNat)
    · exact jt
    · rw [if_pos rfl, bs_size]
      by_cases h4 : (b.length : Int) < 4
      · rw [if_pos h4, jt, decide_eq_false (by omega)]; rfl
      · rw [if_neg h4]
        by_cases h26 : (b.length : Int) > 26
        · rw [decide_eq_true h26, jt, decide_eq_false (by omega)]; rfl
        · rw [decide_eq_false h26, decide_eq_true (show 4 ≤ b.length ∧ b.length ≤ 26 by omega)]
          simp only [impl_MakeNumber.j0]
          have c1 : (bs b).size + (bs [x, y]).size ≤ 9223372036854775807 := by rw [bs_size, bs_size]; simp; omega
          have c2 : (bs b ++ bs [x, y]).size + 2 ≤ 9223372036854775807 := by rw [bs_app, bs_size]; simp; omega
          rw [if_neg (by simp), if_pos c1, if_pos c2, show (⟨#[48, 48]⟩ : ByteArray) = bs (two 0) from rfl, bs_app, bs_app]
          unfold impl_rest97.f
          rw [restL_bs, Option.bind_some, rest_two _ 0 (by omega), Bool.true_and, if_pos rfl]
          have hR := restO_range (b ++ [x, y]) 0
          cases hm : restO (b ++ [x, y]) 0 with
          | none => rfl
          | some m =>
            have hr := hR m (by omega) (by omega) hm
            have e : (m * 100 + ((0 : Nat) : Int)) % 97 = (m * 100) % 97 := by omega
            simp only [Option.map_some, Option.getD_some]
            rw [e]
            generalize hv : (m * 100) % 97 = v
            have hv0 : 0 ≤ v := by omega
            have hv1 : v < 97 := by omega
            obtain ⟨n, hn⟩ : ∃ n : Nat, 98 - v = n := ⟨(98 - v).toNat, by omega⟩
            have e2 : wrap64 (98 - v) = (n : Int) := by rw [hn, w64 (by omega) (by omega)]
            obtain ⟨t, t1, t2, t3, t4⟩ := make_two n (by omega) (k + 1) (by omega)
            rw [if_neg (by omega), e2, t1, Option.bind_some, hn, Int.toNat_natCast]
            have c4 : 1 + (bs t).size ≤ 9223372036854775807 := by rw [bs_size]; omega
            have c5 : ∀ u : List UInt8, u.length ≤ 3 → (bs [x, y]).size + (bs u).size ≤ 9223372036854775807 := by
              intro u hu; rw [bs_size, bs_size]; simp; omega
            have c6 : ∀ u : List UInt8, u.length ≤ 3 → (bs [x, y] ++ bs u).size + (bs b).size ≤ 9223372036854775807 := by
              intro u hu; rw [bs_app, bs_size, bs_size]; simp; omega
            by_cases hl : t.length = 1
            · rw [if_pos hl] at t4
              have hu : (two n).length ≤ 3 := by rw [two_eq n (by omega)]; simp
              rw [if_pos (show ((bs t).size : Int) = 1 by rw [bs_size]; omega), if_pos c4, show (⟨#[48]⟩ : ByteArray) = bs [48] from rfl, bs_app, t4, if_pos (c5 _ hu), if_pos (c6 _ hu), bs_app, bs_app]
            · rw [if_neg hl] at t4
              have hu : (two n).length ≤ 3 := by rw [two_eq n (by omega)]; simp
              rw [if_neg (show ¬ ((bs t).size : Int) = 1 by rw [bs_size]; omega), t4, if_pos (c5 _ hu), if_pos (c6 _ hu), bs_app, bs_app]
  · rw [landOk_ne _ (by rw [bs_size]; exact h2), Option.bind_some, if_neg (by simp), jt]
    unfold made
    match a, h2 with
    | [], _ => rfl
    | [_], _ => rfl
    | [_, _], h => exact absurd rfl h
    | _ :: _ :: _ :: _, _ => rfl

def tried (a b : List UInt8) (n : Nat) : List UInt8 := a ++ two n ++ b
theorem make_spec_step (a b : List UInt8) (ha : a.length ≤ 1048576) (hb : b.length ≤ 1048576) (n : Nat) (hn : n ≤ 98) (k : Nat) (hk : 3000000 ≤ k) : spec_MakeNumber.l0 (k + 1) (bs a) (bs b) (n : Int) =
    if (decide (a.length = 2) && accOk (bs (tried a b n))) = true then some (bs (tried a b n)) else spec_MakeNumber.l0 k (bs a) (bs b) ((n + 1 : Nat) : Int) := by
  have e : wrap64 (100 + (n : Int)) = ((100 + n : Nat) : Int) := by rw [w64 (by omega) (by omega)]; omega
  have t1 : spec_l1Text.f k ((100 + n : Nat) : Int) = some (bs (49 :: two n)) := by
    rw [l1Text_eq 3 _ k (by omega) (by omega) (by omega) (by omega), show 100 + n = 10 ^ 2 + n by omega, dig_one 2 n (by omega)]; rfl
  have t2 : (bs (49 :: two n)).extract 1 (bs (49 :: two n)).size = bs (two n) := by rw [bs_ext, bs_size]; simp
  have h2 : (two n).length = 2 := fx_len 2 n
  have c0 : (1 : Int) ≤ ((bs (49 :: two n)).size : Int) := by rw [bs_size, List.length_cons]; omega
  have c1 : (bs a).size + (bs (two n)).size ≤ 9223372036854775807 := by rw [bs_size, bs_size]; omega
  have c2 : (bs a ++ bs (two n)).size + (bs b).size ≤ 9223372036854775807 := by rw [bs_app, bs_size, bs_size, List.length_append]; omega
  have hz : (bs (tried a b n)).size + 100 < k := by unfold tried; rw [bs_size, List.length_append, List.length_append]; omega
  simp only [spec_MakeNumber.l0]
  rw [if_pos (by omega), e, t1, Option.bind_some, if_pos c0, t2, if_pos c1, if_pos c2, bs_app, bs_app, w64i (show n < 99 by omega) (by omega), bs_size]
  show (if (a.length : Int) = 2 then (spec_AccountNumber.f k (bs (tried a b n))).bind _ else _) = _
  by_cases h : a.length = 2
  · rw [if_pos (by omega), acc_spec _ k hz, Option.bind_some, decide_eq_true h, Bool.true_and]
    rfl
  · rw [if_neg (by omega), decide_eq_false h]; rfl
theorem make_spec (a b : List UInt8) (ha : a.length ≤ 1048576) (hb : b.length ≤ 1048576) (k : Nat) (hk : 3000200 ≤ k) : spec_MakeNumber.f k (bs a) (bs b) = some (bs (made a b)) := by
  unfold spec_MakeNumber.f
  have key := loop_scanM (fun k i => spec_MakeNumber.l0 k (bs a) (bs b) i) 99 3000000 1 (fun n => if (decide (a.length = 2) && accOk (bs (tried a b n))) = true then some (bs (tried a b n)) else none) (bs []) ?_ ?_ 97 2 k (by omega) (by omega)
  · rw [show ((2 : Nat) : Int) = 2 from rfl] at key
    rw [key]
    congr 1
    by_cases h2 : a.length = 2
    · obtain ⟨x, y, rfl⟩ := len_two a h2
      have hA : ∀ n, n < 100 → accOk (bs (tried [x, y] b n)) = (decide (4 ≤ b.length ∧ b.length ≤ 26) && (capB x.toNat && (capB y.toNat && ((restO (b ++ [x, y]) 0).map (fun m => (m * 100 + (n : Int)) % 97) == some 1)))) := fun n hn => acc_two x y n hn b
      have no : (capB x.toNat && capB y.toNat && decide (4 ≤ b.length ∧ b.length ≤ 26)) = false ∨ restO (b ++ [x, y]) 0 = none → scan (fun n => if (decide (List.length [x, y] = 2) && accOk (bs (tried [x, y] b n))) = true then some (bs (tried [x, y] b n)) else none) (bs []) 97 2 = bs [] := by
        intro hno
        refine scan_false 97 2 (fun j h1 h3 => ?_)
        rw [hA j (by omega), if_neg]
        rcases hno with hno | hno
        · cases h4 : decide (4 ≤ b.length ∧ b.length ≤ 26)
          · simp
          · cases h5 : capB x.toNat
            · simp
            · cases h6 : capB y.toNat
              · simp
              · rw [h4, h5, h6] at hno; cases hno
        · rw [hno]; simp
      unfold made
      dsimp only
      by_cases hc : (capB x.toNat && capB y.toNat && decide (4 ≤ b.length ∧ b.length ≤ 26)) = true
      · rw [if_pos hc]
        cases hm : restO (b ++ [x, y]) 0 with
        | none => exact no (.inr hm)
        | some m =>
          have hr := restO_range (b ++ [x, y]) 0 m (by omega) (by omega) hm
          have hc' := hc
          rw [Bool.and_eq_true, Bool.and_eq_true] at hc'
          have hB : ∀ n, n < 100 → ((decide (List.length [x, y] = 2) && accOk (bs (tried [x, y] b n))) = true ↔ (m * 100 + (n : Int)) % 97 = 1) := by
            intro n hn
            rw [hA n hn, hm, hc'.2, hc'.1.1, hc'.1.2]
            simp
          rcases scan_cases (fun n => if (decide (List.length [x, y] = 2) && accOk (bs (tried [x, y] b n))) = true then some (bs (tried [x, y] b n)) else none) (bs []) 97 2 with ⟨j, r, h3, h4, h5, h6, h7⟩ | ⟨h3, _⟩
          · rw [h7]
            by_cases hj : (decide (List.length [x, y] = 2) && accOk (bs (tried [x, y] b j))) = true
            · rw [if_pos hj] at h5
              injection h5 with h5
              rw [← h5]
              have h8 := (hB j (by omega)).1 hj
              have h9 : (98 - ((m * 100) % 97)).toNat = j := by omega
              show bs (tried [x, y] b j) = bs ([x, y] ++ two (98 - ((m * 100) % 97)).toNat ++ b)
              rw [h9]; rfl
            · rw [if_neg hj] at h5; cases h5
          · exfalso
            have h8 := h3 (98 - ((m * 100) % 97)).toNat (by omega) (by omega)
            rw [if_pos ((hB _ (by omega)).2 (by omega))] at h8
            cases h8
      · rw [if_neg hc]
        rw [Bool.not_eq_true] at hc
        exact no (.inl hc)
    · have e : made a b = [] := by
        unfold made
        match a, h2 with
        | [], _ => rfl
        | [_], _ => rfl
        | [_, _], h => exact absurd rfl h
        | _ :: _ :: _ :: _, _ => rfl
      rw [e]
      refine scan_false 97 2 (fun j h1 h3 => ?_)
      rw [decide_eq_false h2]; rfl
  · intro k i hk hi
    rw [make_spec_step a b ha hb i (by omega) k hk]
    split <;> rfl
  · intro k hk
    simp only [spec_MakeNumber.l0]
    rw [if_neg (by omega)]; rfl

theorem digit_eq (b : Int) : impl_digit.f b = some (digB b) := by unfold impl_digit.f digB; exact two_dec (b ≥ 48) (b ≤ 57)
theorem acc_impl (s : ByteArray) : impl_AccountNumber.f s = some (accOk s) := by
  unfold impl_AccountNumber.f accOk
  by_cases h1 : (s.size : Int) < 8
  · rw [if_pos h1, decide_eq_false (by omega)]; simp
  · rw [if_neg h1]
    by_cases h2 : (s.size : Int) > 30
    · rw [if_pos h2, decide_eq_false (by omega)]; simp
    · rw [if_neg h2, if_pos (by omega), if_pos (by omega), decide_eq_true (by omega), landOk_eq _ (by rw [ByteArray.size_extract]; omega)]
      have e0 : bt (s.extract 0 2) 0 = bt s 0 := by have := bt_ext s 0 2 0 (by omega) (by omega); simpa using this
      have e1 : bt (s.extract 0 2) 1 = bt s 1 := by have := bt_ext s 0 2 1 (by omega) (by omega); simpa using this
      rw [e0, e1]
      have p2 : (2 : Int) < (s.size : Int) := by omega
      have p3 : (3 : Int) < (s.size : Int) := by omega
      have p4 : (4 : Int) ≤ (s.size : Int) := by omega
      have p5 : (0 : Int) ≤ 4 := by omega
      have p6 : (s.extract 4 s.size).size + (s.extract 0 4).size ≤ 9223372036854775807 := by rw [ByteArray.size_extract, ByteArray.size_extract]; omega
      simp only [Option.bind_some, digit_eq, if_pos p2, if_pos p3, if_pos p4, if_pos p5, if_pos p6]
      unfold impl_rest97.f
      simp only [Option.bind_some]
      rw [show s.extract 4 s.size ++ s.extract 0 4 = turned s from rfl]
      cases capB (bt s 0) <;> cases capB (bt s 1) <;> cases digB (bt s 2) <;> cases digB (bt s 3) <;> simp

theorem and255 (n : Int) : 0 ≤ Go.bits .and .i64 n 255 ∧ Go.bits .and .i64 n 255 ≤ 255 := by
  have h : Go.bits .and .i64 n 255 = IntKind.i64.wrap ((BitVec.ofInt 64 n &&& BitVec.ofInt 64 255).toNat : Int) := rfl
  have hb : (BitVec.ofInt 64 n &&& BitVec.ofInt 64 255).toNat ≤ 255 := by
    rw [BitVec.toNat_and]
    exact Nat.le_trans Nat.and_le_right (by decide)
  rw [h]
  generalize (BitVec.ofInt 64 n &&& BitVec.ofInt 64 255).toNat = m at hb
  have : IntKind.i64.wrap (m : Int) = (m : Int) := by
    rw [IntKind.wrap_i64]; omega
  rw [this]
  omega
theorem new_ok (L : List Int) : ∀ (d i : Nat) (s : Int) (k : Nat), i + d = 4000 → d < k → ∃ t, spec_l1New.l0 k L s (i : Int) = some (L, 0, t) := by
  intro d
  induction d with
  | zero =>
    intro i s k hi hk
    obtain ⟨k, rfl⟩ : ∃ q, k = q + 1 := ⟨k - 1, by omega⟩
    refine ⟨s, ?_⟩
    rw [spec_l1New.l0, if_neg (show ¬ (i : Int) < 4000 by omega)]
    split <;> rfl
  | succ d ih =>
    intro i s k hi hk
    obtain ⟨k, rfl⟩ : ∃ q, k = q + 1 := ⟨k - 1, by omega⟩
    rw [spec_l1New.l0]
    by_cases h : (i : Int) < (L.length : Int)
    · have e : wrap64 ((i : Int) + 1) = ((i + 1 : Nat) : Int) := by rw [w64 (by omega) (by omega)]; omega
      rw [if_pos h, if_pos (show (i : Int) < 4000 by omega), if_pos (Int.natCast_nonneg i), e]
      exact ih (i + 1) _ k (by omega) (by omega)
    · exact ⟨s, by rw [if_neg h]⟩
theorem l1New_ok (L : List Int) (k : Nat) (hk : 4001 ≤ k) : ∃ t, spec_l1New.f k L = some (L, 0, t) := by
  unfold spec_l1New.f
  exact new_ok L 4000 0 _ k (by omega) (by omega)
theorem byte_ok (L : List Int) (i s : Int) (hL : L.length ≤ maxLen) (h0 : 0 ≤ i) (hi : i ≤ L.length) : ∃ v j t, spec_l1Byte.f L i s = some (v, j, t) ∧ 0 ≤ v ∧ v ≤ 255 ∧ 0 ≤ j ∧ j ≤ L.length := by
  have hm : maxLen ≤ 9223372036854775807 := by rw [maxLen_eq]; omega
  unfold spec_l1Byte.f
  by_cases h : i < (L.length : Int)
  · have e : wrap64 (i + 1) = i + 1 := w64 (by omega) (by omega)
    rw [if_pos h, if_pos h0, e]
    exact ⟨_, _, _, rfl, (and255 _).1, (and255 _).2, by omega, by omega⟩
  · rw [if_neg h]
    exact ⟨_, _, _, rfl, (and255 _).1, (and255 _).2, by omega, by omega⟩
theorem below_ok (L : List Int) (i s n : Int) (hL : L.length ≤ maxLen) (h0 : 0 ≤ i) (hi : i ≤ L.length) : ∃ v j t, spec_l1Below.f L i s n = some (v, j, t) ∧ 0 ≤ v ∧ (0 < n → v < n) ∧ 0 ≤ j ∧ j ≤ L.length := by
  unfold spec_l1Below.f
  by_cases hn : n ≤ 0
  · rw [if_pos hn]
    exact ⟨_, _, _, rfl, by omega, fun h => by omega, h0, hi⟩
  · rw [if_neg hn]
    have tm : ∀ z : Int, 0 ≤ z → 0 ≤ Int.tmod z n ∧ Int.tmod z n < n := by
      intro z hz
      rw [Int.tmod_eq_emod_of_nonneg hz]
      exact ⟨Int.emod_nonneg _ (by omega), Int.emod_lt_of_pos _ (by omega)⟩
    by_cases h2 : n ≤ 256
    · obtain ⟨v, j, t, e, v0, v1, j0, j1⟩ := byte_ok L i s hL h0 hi
      rw [if_pos h2, e, Option.bind_some, if_neg (by omega)]
      exact ⟨_, _, _, rfl, (tm v v0).1, fun _ => (tm v v0).2, j0, j1⟩
    · obtain ⟨v, j, t, e, v0, v1, j0, j1⟩ := byte_ok L i s hL h0 hi
      obtain ⟨v', j', t', e', v0', v1', j0', j1'⟩ := byte_ok L j t hL j0 j1
      obtain ⟨v2, j2, t2, e2, v02, v12, j02, j12⟩ := byte_ok L j' t' hL j0' j1'
      obtain ⟨v3, j3, t3, e3, v03, v13, j03, j13⟩ := byte_ok L j2 t2 hL j02 j12
      rw [if_neg h2, e, Option.bind_some]
      dsimp only
      rw [e', Option.bind_some]
      dsimp only
      rw [e2, Option.bind_some]
      dsimp only
      rw [e3, Option.bind_some, if_neg (by omega)]
      dsimp only
      have w : wrap64 (wrap64 (wrap64 (wrap64 (v * 16777216) + wrap64 (v' * 65536)) + wrap64 (v2 * 256)) + v3) = v * 16777216 + v' * 65536 + v2 * 256 + v3 := by
        rw [w64 (x := v * 16777216) (by omega) (by omega), w64 (x := v' * 65536) (by omega) (by omega), w64 (x := v2 * 256) (by omega) (by omega), w64 (x := v * 16777216 + v' * 65536) (by omega) (by omega), w64 (x := v * 16777216 + v' * 65536 + v2 * 256) (by omega) (by omega), w64 (by omega) (by omega)]
      rw [w]
      have tz := tm (v * 16777216 + v' * 65536 + v2 * 256 + v3) (by omega)
      exact ⟨_, _, _, rfl, tz.1, fun _ => tz.2, j03, j13⟩

theorem rdOf_mem (l : List ByteArray) (v : Int) (h0 : 0 ≤ v) (h1 : v < (l.length : Int)) : rdOf ByteArray.empty l v ∈ l := by
  obtain ⟨n, rfl⟩ : ∃ n : Nat, v = n := ⟨v.toNat, by omega⟩
  have hn : n < l.length := by omega
  have : rdOf ByteArray.empty l (n : Int) = l[n]'hn := by
    unfold rdOf
    simp [hn]
  rw [this]
  exact List.getElem_mem hn
theorem pick_ok (L : List Int) (l : List ByteArray) (i s : Int) (hL : L.length ≤ maxLen) (h0 : 0 ≤ i) (hi : i ≤ L.length) (hl : 0 < l.length) : ∃ v j t, spec_l1Pick.f L i s l = some (v, j, t) ∧ v ∈ l ∧ 0 ≤ j ∧ j ≤ L.length := by
  unfold spec_l1Pick.f
  obtain ⟨v, j, t, e, v0, v1, j0, j1⟩ := below_ok L i s (l.length : Int) hL h0 hi
  have v2 := v1 (by omega)
  rw [e, Option.bind_some]
  dsimp only
  rw [if_pos v0, if_pos v2]
  exact ⟨_, _, _, rfl, rdOf_mem l v v0 v2, j0, j1⟩

theorem once_ok (L : List Int) (i s n : Int) (hL : L.length ≤ maxLen) (h0 : 0 ≤ i) (hi : i ≤ L.length) : ∃ (b : Bool) (j t : Int), spec_l1Once.f L i s n = some (b, j, t) ∧ 0 ≤ j ∧ j ≤ L.length := by
  unfold spec_l1Once.f
  obtain ⟨v, j, t, e, _, _, j0, j1⟩ := below_ok L i s n hL h0 hi
  rw [e, Option.bind_some]
  exact ⟨_, _, _, rfl, j0, j1⟩

theorem drawRest_ok (L : List Int) (hL : L.length ≤ maxLen) : ∀ (m : Nat) (x : ByteArray) (i s : Int) (k : Nat), x.size + 40 * m ≤ 100000 → m < k → 0 ≤ i → i ≤ L.length → ∃ l j t, spec_l14DrawRest.l0 k x (m : Int) L i s = some (l, j, t) ∧ l.size ≤ x.size + 40 * m ∧ 0 ≤ j ∧ j ≤ L.length := by
  intro m
  induction m with
  | zero =>
    intro x i s k _ hk h0 hi
    obtain ⟨k, rfl⟩ : ∃ q, k = q + 1 := ⟨k - 1, by omega⟩
    rw [spec_l14DrawRest.l0, if_neg (by omega)]
    exact ⟨_, _, _, rfl, Nat.le_refl _, h0, hi⟩
  | succ m ih =>
    intro x i s k hx hk h0 hi
    obtain ⟨k, rfl⟩ : ∃ q, k = q + 1 := ⟨k - 1, by omega⟩
    have e0 : wrap64 (((m + 1 : Nat) : Int) - 1) = (m : Int) := by rw [w64 (by omega) (by omega)]; omega
    obtain ⟨v, j, t, e, hv, j0, j1⟩ := pick_ok L [⟨#[48]⟩, ⟨#[49]⟩, ⟨#[55]⟩, ⟨#[57]⟩, ⟨#[65]⟩, ⟨#[90]⟩, ⟨#[75]⟩, ⟨#[53]⟩] i s hL h0 hi (by simp)
    have hz : v.size ≤ 40 := by
      simp only [List.mem_cons, List.not_mem_nil, or_false] at hv
      rcases hv with rfl | rfl | rfl | rfl | rfl | rfl | rfl | rfl <;> decide
    have hs : (x ++ v).size = x.size + v.size := ByteArray.size_append
    rw [spec_l14DrawRest.l0, if_pos (by omega), e, Option.bind_some, e0]
    dsimp only
    rw [if_pos (show x.size + v.size ≤ 9223372036854775807 by omega)]
    obtain ⟨l, j, t, e, hl, j0, j1⟩ := ih (x ++ v) j t k (by omega) (by omega) j0 j1
    exact ⟨l, j, t, e, by omega, j0, j1⟩
theorem drawMake_ok (L : List Int) (hL : L.length ≤ maxLen) (k : Nat) (hk : 4001 ≤ k) : ∃ a b, spec_DrawMakeNumber.f k L = some (a, b) ∧ a.size ≤ 100000 ∧ b.size ≤ 100000 := by
  unfold spec_DrawMakeNumber.f
  obtain ⟨t, e⟩ := l1New_ok L k hk
  rw [e, Option.bind_some]
  dsimp only
  unfold spec_l14DrawRest.f
  obtain ⟨n, j, t, e, n0, n1, j0, j1⟩ := below_ok L 0 t 16 hL (by omega) (by omega)
  have n2 := n1 (by omega)
  rw [e, Option.bind_some]
  dsimp only
  obtain ⟨n, rfl⟩ : ∃ m : Nat, n = m := ⟨n.toNat, by omega⟩
  have en : wrap64 (4 + (n : Int)) = ((4 + n : Nat) : Int) := by rw [w64 (by omega) (by omega)]; omega
  have hz : (⟨#[]⟩ : ByteArray).size = 0 := rfl
  obtain ⟨r, j, t, e, hr, j0, j1⟩ := drawRest_ok L hL (4 + n) (⟨#[]⟩ : ByteArray) j t k (by omega) (by omega) j0 j1
  rw [en, e, Option.bind_some]
  dsimp only
  obtain ⟨o, j, t, e, j0, j1⟩ := once_ok L j t 6 hL j0 j1
  rw [e, Option.bind_some]
  dsimp only
  have land : ∀ (j t : Int), 0 ≤ j → j ≤ L.length → ∃ v j' t', spec_l1Pick.f L j t [⟨#[68, 69]⟩, ⟨#[71, 66]⟩, ⟨#[88, 88]⟩, ⟨#[70, 82]⟩, ⟨#[65, 65]⟩, ⟨#[90, 90]⟩, ⟨#[68]⟩, ⟨#[100, 101]⟩, ⟨#[68, 49]⟩, ⟨#[68, 69, 85]⟩] = some (v, j', t') ∧ v.size ≤ 100000 := by
    intro j t j0 j1
    obtain ⟨v, j', t', e, hv, _, _⟩ := pick_ok L [⟨#[68, 69]⟩, ⟨#[71, 66]⟩, ⟨#[88, 88]⟩, ⟨#[70, 82]⟩, ⟨#[65, 65]⟩, ⟨#[90, 90]⟩, ⟨#[68]⟩, ⟨#[100, 101]⟩, ⟨#[68, 49]⟩, ⟨#[68, 69, 85]⟩] j t hL j0 j1 (by simp)
    refine ⟨v, j', t', e, ?_⟩
    simp only [List.mem_cons, List.not_mem_nil, or_false] at hv
    rcases hv with rfl | rfl | rfl | rfl | rfl | rfl | rfl | rfl | rfl | rfl <;> decide
  cases o
  · rw [if_neg (by simp)]
    obtain ⟨v, j', t', e, hv⟩ := land j t j0 j1
    rw [e, Option.bind_some]
    exact ⟨_, _, rfl, hv, by omega⟩
  · rw [if_pos rfl]
    obtain ⟨v, j, t, e, hv, j0, j1⟩ := pick_ok L [⟨#[]⟩, ⟨#[49, 50, 51]⟩, ⟨#[49, 50, 51, 52]⟩, ⟨#[49, 50, 51, 52, 53, 54, 55, 56, 57, 48, 49, 50, 51, 52, 53, 54, 55, 56, 57, 48, 49, 50, 51, 52, 53, 54]⟩, ⟨#[49, 50, 51, 52, 53, 54, 55, 56, 57, 48, 49, 50, 51, 52, 53, 54, 55, 56, 57, 48, 49, 50, 51, 52, 53, 54, 55]⟩, ⟨#[49, 50, 97, 52]⟩, ⟨#[49, 50, 32, 52]⟩] j t hL j0 j1 (by simp)
    have hz : v.size ≤ 100000 := by
      simp only [List.mem_cons, List.not_mem_nil, or_false] at hv
      rcases hv with rfl | rfl | rfl | rfl | rfl | rfl | rfl <;> decide
    rw [e, Option.bind_some]
    dsimp only
    obtain ⟨w, j', t', e, hw⟩ := land j t j0 j1
    rw [e, Option.bind_some]
    exact ⟨_, _, rfl, hw, hz⟩

theorem rd_mem (l : List Int) (v : Int) (h0 : 0 ≤ v) (h1 : v < (l.length : Int)) : rd l v ∈ l := by
  obtain ⟨n, rfl⟩ : ∃ n : Nat, v = n := ⟨v.toNat, by omega⟩
  have hn : n < l.length := by omega
  have : rd l (n : Int) = l[n]'hn := by
    unfold rd
    simp [hn]
  rw [this]
  exact List.getElem_mem hn

theorem restO_inj : ∀ (w : List UInt8) (v v' m : Int), 0 ≤ v → v < 97 → 0 ≤ v' → v' < 97 → v ≠ v' → restO w v = some m → restO w v' ≠ some m := by
  intro w
  induction w with
  | nil =>
    intro v v' m _ _ _ _ h h1 h2
    unfold restO at h1 h2
    injection h1 with h1
    injection h2 with h2
    omega
  | cons b w ih =>
    intro v v' m h0 h1 h2 h3 hne hm
    unfold restO at hm ⊢
    split
    · rename_i hd
      rw [if_pos hd] at hm
      exact ih _ _ m (by omega) (by omega) (by omega) (by omega) (by omega) hm
    · rename_i hd
      rw [if_neg hd] at hm
      split
      · rename_i hc
        rw [if_pos hc] at hm
        exact ih _ _ m (by omega) (by omega) (by omega) (by omega) (by omega) hm
      · simp
/-- Two signs of one class that are not the same. -/
def other (b b' : UInt8) : Prop := b.toNat ≠ b'.toNat ∧ (((48 ≤ (b.toNat : Int) ∧ (b.toNat : Int) ≤ 57) ∧ (48 ≤ (b'.toNat : Int) ∧ (b'.toNat : Int) ≤ 57)) ∨ ((65 ≤ (b.toNat : Int) ∧ (b.toNat : Int) ≤ 90) ∧ (65 ≤ (b'.toNat : Int) ∧ (b'.toNat : Int) ≤ 90)))
theorem restO_other (u w : List UInt8) (b b' : UInt8) (m : Int) (ho : other b b') (h : restO (u ++ b :: w) 0 = some m) : restO (u ++ b' :: w) 0 ≠ some m := by
  rw [restO_app] at h ⊢
  cases hu : restO u 0 with
  | none => simp
  | some q =>
    rw [hu, Option.bind_some] at h
    rw [Option.bind_some]
    have hr := restO_range u 0 q (by omega) (by omega) hu
    obtain ⟨hne, hcl⟩ := ho
    unfold restO at h ⊢
    rcases hcl with ⟨h1, h2⟩ | ⟨h1, h2⟩
    · rw [if_pos h1] at h
      rw [if_pos h2]
      exact restO_inj w _ _ m (by omega) (by omega) (by omega) (by omega) (by omega) h
    · rw [if_neg (by omega), if_pos h1] at h
      rw [if_neg (by omega), if_pos h2]
      exact restO_inj w _ _ m (by omega) (by omega) (by omega) (by omega) (by omega) h
theorem acc_false (x y c d : UInt8) (r : List UInt8) (h : restO (r ++ [x, y, c, d]) 0 ≠ some 1) : accOk (bs (x :: y :: c :: d :: r)) = false := by
  rw [accOk_bs, show (restO (r ++ [x, y, c, d]) 0 == some 1) = false by rw [beq_eq_false_iff_ne]; exact h]
  simp
theorem acc_changed (x y c d : UInt8) (r : List UInt8) (h : restO (r ++ [x, y, c, d]) 0 = some 1) (i : Nat) (b b' : UInt8) (hi : (x :: y :: c :: d :: r)[i]? = some b) (ho : other b b') : accOk (bs ((x :: y :: c :: d :: r).take i ++ b' :: (x :: y :: c :: d :: r).drop (i + 1))) = false := by
  match i, hi with
  | 0, hi =>
    injection hi with hi; subst hi
    exact acc_false b' y c d r (restO_other r [y, c, d] x b' 1 ho h)
  | 1, hi =>
    injection hi with hi; subst hi
    refine acc_false x b' c d r ?_
    have := restO_other (r ++ [x]) [c, d] y b' 1 ho (by rw [List.append_assoc]; exact h)
    rwa [List.append_assoc] at this
  | 2, hi =>
    injection hi with hi; subst hi
    refine acc_false x y b' d r ?_
    have := restO_other (r ++ [x, y]) [d] c b' 1 ho (by rw [List.append_assoc]; exact h)
    rwa [List.append_assoc] at this
  | 3, hi =>
    injection hi with hi; subst hi
    refine acc_false x y c b' r ?_
    have := restO_other (r ++ [x, y, c]) [] d b' 1 ho (by rw [List.append_assoc]; exact h)
    rwa [List.append_assoc] at this
  | i + 4, hi =>
    have hi : r[i]? = some b := hi
    obtain ⟨hl, hb⟩ := List.getElem?_eq_some_iff.1 hi
    have hr : r = r.take i ++ b :: r.drop (i + 1) := by
      rw [← hb, ← List.drop_eq_getElem_cons hl, List.take_append_drop]
    show accOk (bs (x :: y :: c :: d :: (r.take i ++ b' :: r.drop (i + 1)))) = false
    refine acc_false x y c d _ ?_
    rw [hr, List.append_assoc] at h
    have := restO_other (r.take i) (r.drop (i + 1) ++ [x, y, c, d]) b b' 1 ho h
    rwa [List.append_assoc]
theorem made_acc (a b : List UInt8) (h : made a b ≠ []) : ∃ x y c d r, made a b = x :: y :: c :: d :: r ∧ accOk (bs (made a b)) = true ∧ restO (r ++ [x, y, c, d]) 0 = some 1 ∧ r.length ≤ 26 := by
  unfold made at h ⊢
  match a with
  | [x, y] =>
    dsimp only at h ⊢
    by_cases hc : (capB x.toNat && capB y.toNat && decide (4 ≤ b.length ∧ b.length ≤ 26)) = true
    · rw [if_pos hc] at h ⊢
      cases hm : restO (b ++ [x, y]) 0 with
      | none => rw [hm] at h; exact absurd rfl h
      | some m =>
        have hr := restO_range (b ++ [x, y]) 0 m (by omega) (by omega) hm
        dsimp only
        generalize hn : (98 - ((m * 100) % 97)).toNat = n
        have hn' : n < 100 := by omega
        have e := acc_two x y n hn' b
        rw [Bool.and_eq_true, Bool.and_eq_true] at hc
        have hv : (m * 100 + (n : Int)) % 97 = 1 := by omega
        rw [hm, hc.1.1, hc.1.2, hc.2, Option.map_some, hv] at e
        have e' : accOk (bs ([x, y] ++ two n ++ b)) = true := by rw [e]; rfl
        refine ⟨x, y, dg (n / 10), dg (n % 10), b, by rw [two_eq n hn']; rfl, e', ?_, ?_⟩
        · have h2 := rest_two (b ++ [x, y]) n hn'
          rw [hm, Option.map_some, hv, two_eq n hn', List.append_assoc] at h2
          exact h2
        · have := hc.2; rw [decide_eq_true_eq] at this; exact this.2
    · rw [if_neg hc] at h; exact absurd rfl h
  | [] => exact absurd rfl h
  | [_] => exact absurd rfl h
  | _ :: _ :: _ :: _ => exact absurd rfl h
theorem restO_sign : ∀ (l : List UInt8) (n m : Int), restO l n = some m → ∀ b ∈ l, (48 ≤ (b.toNat : Int) ∧ (b.toNat : Int) ≤ 57) ∨ (65 ≤ (b.toNat : Int) ∧ (b.toNat : Int) ≤ 90) := by
  intro l
  induction l with
  | nil => intro n m _ b hb; cases hb
  | cons x l ih =>
    intro n m h b hb
    unfold restO at h
    split at h
    · rename_i hd
      rcases List.mem_cons.1 hb with rfl | hb
      · exact .inl hd
      · exact ih _ _ h b hb
    · split at h
      · rename_i hd
        rcases List.mem_cons.1 hb with rfl | hb
        · exact .inr hd
        · exact ih _ _ h b hb
      · cases h
theorem num_one (v : Int) (h0 : 0 ≤ v) (h1 : v ≤ 255) : strOfNums ([v] : List Int) = bs [UInt8.ofNat v.toNat] := by
  unfold strOfNums bs
  simp
theorem made_first : made [88, 88] [48, 48, 48, 48] = [88, 88, 57, 48, 48, 48, 48, 48] := by decide
theorem tail_ok (M : List UInt8) (i : Nat) (hi : i < M.length) (hM : M.length ≤ 1000) (v : Int) (b' : UInt8) (hv : strOfNums ([v] : List Int) = bs [b']) (hacc : accOk (bs (M.take i ++ b' :: M.drop (i + 1))) = false) :
    (if (i : Int) ≤ ((bs M).size : Int) then ((some (([v] : List Int) : List Int)).bind fun y => (if ((bs M).extract 0 ((i : Int) : Int).toNat).size + (strOfNums y).size ≤ 9223372036854775807 then (if 0 ≤ (wrap64 ((i : Int) + 1)) then (if (wrap64 ((i : Int) + 1)) ≤ ((bs M).size : Int) then (if (((bs M).extract 0 ((i : Int) : Int).toNat) ++ (strOfNums y)).size + ((bs M).extract ((wrap64 ((i : Int) + 1)) : Int).toNat (bs M).size).size ≤ 9223372036854775807 then ((impl_AccountNumber.f ((((bs M).extract 0 ((i : Int) : Int).toNat) ++ (strOfNums y)) ++ ((bs M).extract ((wrap64 ((i : Int) + 1)) : Int).toNat (bs M).size))).bind fun t207 => (some (!t207))) else (none)) else (none)) else (none)) else (none))) else (none)) = some true := by
  have e1 : wrap64 ((i : Int) + 1) = ((i + 1 : Nat) : Int) := by rw [w64 (by omega) (by omega)]; omega
  have e2 : (bs M).extract 0 i = bs (M.take i) := by rw [bs_ext, List.drop_zero]
  have e3 : (bs M).extract (i + 1) (bs M).size = bs (M.drop (i + 1)) := by rw [bs_ext, bs_size, List.take_length]
  have e4 : bs (M.take i) ++ bs [b'] ++ bs (M.drop (i + 1)) = bs (M.take i ++ b' :: M.drop (i + 1)) := by rw [bs_app, bs_app, List.append_assoc]; rfl
  have c0 : (i : Int) ≤ ((bs M).size : Int) := by rw [bs_size]; omega
  have c1 : (bs (M.take i)).size + (bs [b']).size ≤ 9223372036854775807 := by rw [bs_size, bs_size, List.length_take, List.length_singleton]; omega
  have c2 : ((i + 1 : Nat) : Int) ≤ ((bs M).size : Int) := by rw [bs_size]; omega
  have c3 : (bs (M.take i) ++ bs [b']).size + (bs (M.drop (i + 1))).size ≤ 9223372036854775807 := by rw [bs_app, bs_size, bs_size, List.length_append, List.length_take, List.length_singleton, List.length_drop]; omega
  rw [if_pos c0, Option.bind_some, hv, e1, Int.toNat_natCast, Int.toNat_natCast, e2, e3, if_pos c1, if_pos (Int.natCast_nonneg _), if_pos c2, if_pos c3, e4, acc_impl, Option.bind_some, hacc]
  rfl
theorem at_ok (L : List Int) (hu : ∀ x ∈ L, (Lit.int .u8 x).wf = true) (i : Nat) (hi : i ≤ 10) : ∃ v, laws_at.f L (i : Int) = some v ∧ 0 ≤ v ∧ v ≤ 255 := by
  unfold laws_at.f
  by_cases h : (i : Int) < (L.length : Int)
  · have hm := hu _ (rd_mem L (i : Int) (by omega) h)
    have hb : 0 ≤ rd L (i : Int) ∧ rd L (i : Int) ≤ 255 := by
      simp [Lit.wf, IntKind.min, IntKind.max, IntKind.signed, IntKind.bits] at hm
      omega
    rw [if_pos h, if_pos (by omega), w64 (by omega) (by omega)]
    exact ⟨_, rfl, hb.1, hb.2⟩
  · rw [if_neg h]
    exact ⟨0, rfl, by omega, by omega⟩
theorem FnNumbered : laws_FnNumbered.Pure := by
  intro L hL _ hu
  refine ⟨4000000, ?_⟩
  unfold laws_FnNumbered.f laws_big.f
  rw [Option.bind_some]
  by_cases hb : ((L.length : Nat) : Int) > 1048576
  · rw [if_pos (decide_eq_true hb)]
  · rw [if_neg (by rw [decide_eq_true_eq]; exact hb)]
    have first := make_impl [88, 88] [48, 48, 48, 48] (by simp) 4000000 (by omega)
    rw [made_first] at first
    rw [show (⟨#[88, 88]⟩ : ByteArray) = bs [88, 88] from rfl, show (⟨#[48, 48, 48, 48]⟩ : ByteArray) = bs [48, 48, 48, 48] from rfl, first, Option.bind_some, bs_toList, if_pos rfl]
    obtain ⟨a, b, e, ha, hb'⟩ := drawMake_ok L hL 4000000 (by omega)
    rw [e, Option.bind_some]
    dsimp only
    obtain ⟨x, rfl⟩ : ∃ x, a = bs x := ⟨_, (bs_self a).symm⟩
    obtain ⟨y, rfl⟩ : ∃ y, b = bs y := ⟨_, (bs_self b).symm⟩
    rw [bs_size] at ha hb'
    rw [make_impl x y (by omega) _ (by omega), Option.bind_some, make_spec x y (by omega) (by omega) _ (by omega), Option.bind_some, if_pos rfl, bs_toList]
    by_cases hm : made x y = []
    · rw [if_pos hm]
    · rw [if_neg hm]
      obtain ⟨p, q, c, d, r, hM, hacc, hrest, hr26⟩ := made_acc x y hm
      rw [hM] at hacc ⊢
      obtain ⟨t, et, t0, t1⟩ := at_ok L hu 0 (by omega)
      obtain ⟨t', et', t0', t1'⟩ := at_ok L hu 1 (by omega)
      have hlen : (p :: q :: c :: d :: r).length = r.length + 4 := rfl
      have hsign : ∀ b ∈ p :: q :: c :: d :: r, (48 ≤ (b.toNat : Int) ∧ (b.toNat : Int) ≤ 57) ∨ (65 ≤ (b.toNat : Int) ∧ (b.toNat : Int) ≤ 90) := by
        intro b hb
        refine restO_sign _ _ _ hrest b ?_
        simp only [List.mem_cons, List.mem_append, List.not_mem_nil, or_false] at hb ⊢
        rcases hb with h | h | h | h | h
        · exact .inr (.inl h)
        · exact .inr (.inr (.inl h))
        · exact .inr (.inr (.inr (.inl h)))
        · exact .inr (.inr (.inr (.inr h)))
        · exact .inl h
      have hchg := acc_changed p q c d r hrest
      generalize hMM : p :: q :: c :: d :: r = M at *
      have hM1 : M.length ≤ 30 := by omega
      obtain ⟨i, hi⟩ : ∃ i : Nat, Int.tmod t ((bs M).size : Int) = i := ⟨(Int.tmod t ((bs M).size : Int)).toNat, by
        rw [bs_size, Int.tmod_eq_emod_of_nonneg t0]
        have := Int.emod_nonneg t (show (M.length : Int) ≠ 0 by omega)
        omega⟩
      have hi1 : i < M.length := by
        rw [bs_size, Int.tmod_eq_emod_of_nonneg t0] at hi
        have := Int.emod_lt_of_pos t (show (0 : Int) < (M.length : Int) by omega)
        omega
      have c0 : ¬ ((bs M).size : Int) = 0 := by rw [bs_size]; omega
      have c1 : (i : Int) < ((bs M).size : Int) := by rw [bs_size]; omega
      have ebt := bt_bs M i hi1
      have hb0 := hsign _ (List.getElem_mem hi1)
      have hget : M[i]? = some (M[i]'hi1) := List.getElem?_eq_getElem hi1
      generalize hbb : M[i]'hi1 = bb at *
      rw [show laws_at.f L 0 = some t from et, Option.bind_some, if_neg c0, hi, if_pos (Int.natCast_nonneg i), if_pos c1, ebt]
      by_cases h57 : (bb.toNat : Int) ≤ 57
      · rw [if_pos h57, show laws_at.f L 1 = some t' from et', Option.bind_some, acc_impl, hacc, Option.bind_some, if_pos rfl]
        have tm : Int.tmod t' 9 = t' % 9 := Int.tmod_eq_emod_of_nonneg t0'
        have w1 : wrap64 (1 + Int.tmod t' 9) = 1 + t' % 9 := by rw [tm, w64 (by omega) (by omega)]
        rw [w1]
        generalize hv : 48 + ((((((bb.toNat : Int) - 48) % 256) + ((1 + t' % 9) % 256)) % 256) % 10) = v
        have r0 : 0 ≤ t' % 9 ∧ t' % 9 < 9 := ⟨Int.emod_nonneg _ (by decide), Int.emod_lt_of_pos _ (by decide)⟩
        generalize t' % 9 = r9 at hv r0
        have v1 : ((((((bb.toNat : Int) - 48) % 256) + ((1 + r9) % 256)) % 256) % 10) = ((bb.toNat : Int) - 48 + 1 + r9) % 10 := by
          rw [show ((((bb.toNat : Int) - 48) % 256) + ((1 + r9) % 256)) % 256 = (bb.toNat : Int) - 48 + 1 + r9 by omega]
        rw [v1] at hv
        have v0 : 48 ≤ v ∧ v ≤ 57 ∧ v ≠ bb.toNat := by omega
        have hto : ((UInt8.ofNat v.toNat).toNat : Int) = v := by
          rw [UInt8.toNat_ofNat']; omega
        exact tail_ok M i hi1 (by omega) v (UInt8.ofNat v.toNat) (num_one v (by omega) (by omega)) (hchg i bb _ hget ⟨by omega, .inl ⟨by omega, by omega⟩⟩)
      · rw [if_neg h57, show laws_at.f L 1 = some t' from et', Option.bind_some, acc_impl, hacc, Option.bind_some, if_pos rfl]
        have tm : Int.tmod t' 25 = t' % 25 := Int.tmod_eq_emod_of_nonneg t0'
        have w1 : wrap64 (1 + Int.tmod t' 25) = 1 + t' % 25 := by rw [tm, w64 (by omega) (by omega)]
        rw [w1]
        generalize hv : 65 + ((((((bb.toNat : Int) - 65) % 256) + ((1 + t' % 25) % 256)) % 256) % 26) = v
        have r0 : 0 ≤ t' % 25 ∧ t' % 25 < 25 := ⟨Int.emod_nonneg _ (by decide), Int.emod_lt_of_pos _ (by decide)⟩
        generalize t' % 25 = r9 at hv r0
        have v1 : ((((((bb.toNat : Int) - 65) % 256) + ((1 + r9) % 256)) % 256) % 26) = ((bb.toNat : Int) - 65 + 1 + r9) % 26 := by
          rw [show ((((bb.toNat : Int) - 65) % 256) + ((1 + r9) % 256)) % 256 = (bb.toNat : Int) - 65 + 1 + r9 by omega]
        rw [v1] at hv
        have v0 : 65 ≤ v ∧ v ≤ 90 ∧ v ≠ bb.toNat := by omega
        have hto : ((UInt8.ofNat v.toNat).toNat : Int) = v := by
          rw [UInt8.toNat_ofNat']; omega
        exact tail_ok M i hi1 (by omega) v (UInt8.ofNat v.toNat) (num_one v (by omega) (by omega)) (hchg i bb _ hget ⟨by omega, .inr ⟨by omega, by omega⟩⟩)

end Go.Proofs.Ytegkhdobjcdfnaf.Pure
