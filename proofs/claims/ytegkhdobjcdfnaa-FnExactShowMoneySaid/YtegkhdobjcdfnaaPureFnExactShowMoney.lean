/- The program's ShowMoney answers as the reference's at every amount and number of places. Conditions: none. -/
import Derived.Test.YtegkhdobjcdfnaaPFnExactShowMoneyx0
import Derived.Test.YtegkhdobjcdfnaaPFnExactShowMoneyx1
import Derived.Test.YtegkhdobjcdfnaaPFnExactShowMoneyx2
import Derived.Test.YtegkhdobjcdfnaaPureAid
import Derived.Test.YtegkhdobjcdfnaaWMore
namespace Go.Proofs.Ytegkhdobjcdfnaa.Pure
open Go Go.RowKit Go.Proofs.Ytegkhdobjcdfnaa.PFnExactShowMoney Go.Proofs.YtegkhdobjcdfnaaW.PrintWords Go.Proofs.YtegkhdobjcdfnaaW.PrintLast Go.Proofs.Ytegkhdobjcdfnaa.Aid
set_option linter.unusedVariables false
set_option linter.unusedSimpArgs false
set_option maxRecDepth 100000
def bs (l : List UInt8) : ByteArray := ⟨l.toArray⟩
theorem bs_size (l : List UInt8) : (bs l).size = l.length := by unfold bs; simp [ByteArray.size]
theorem bs_app (a b : List UInt8) : bs a ++ bs b = bs (a ++ b) := by
  unfold bs
  apply ByteArray.ext
  simp
theorem bs_ext (l : List UInt8) (u v : Nat) : (bs l).extract u v = bs ((l.take v).drop u) := by
  unfold bs
  apply ByteArray.ext
  simp [ByteArray.data_extract, List.extract_eq_take_drop, List.drop_take]
def dg (n : Nat) : UInt8 := UInt8.ofNat (48 + n)
/-- The digits of a number, b of them at most. -/
def digF : Nat → Nat → List UInt8
  | 0, n => [dg n]
  | b + 1, n => if n < 10 then [dg n] else digF b (n / 10) ++ [dg (n % 10)]
theorem digF_more : ∀ (b c n : Nat), n ≤ b → n ≤ c → digF b n = digF c n := by
  intro b
  induction b with
  | zero =>
    intro c n h1 h2
    obtain rfl : n = 0 := by omega
    cases c <;> rfl
  | succ b ih =>
    intro c n h1 h2
    cases c with
    | zero => obtain rfl : n = 0 := by omega
              rfl
    | succ c =>
      unfold digF
      by_cases h : n < 10
      · rw [if_pos h, if_pos h]
      · rw [if_neg h, if_neg h, ih c (n / 10) (by omega) (by omega)]
/-- The digits of a number. -/
def dig (n : Nat) : List UInt8 := digF n n
theorem dig_lt (n : Nat) (h : n < 10) : dig n = [dg n] := by
  unfold dig
  cases n with
  | zero => rfl
  | succ n => unfold digF; rw [if_pos h]
theorem dig_ge (n : Nat) (h : ¬ n < 10) : dig n = dig (n / 10) ++ [dg (n % 10)] := by
  unfold dig
  obtain ⟨m, rfl⟩ : ∃ m, n = m + 1 := ⟨n - 1, by omega⟩
  rw [digF_more ((m + 1) / 10) m ((m + 1) / 10) (Nat.le_refl _) (by omega)]
  show (if m + 1 < 10 then _ else _) = _
  rw [if_neg h]
theorem dig_len : ∀ (m n : Nat), n < 10 ^ m → 1 ≤ (dig n).length ∧ ((dig n).length ≤ m ∨ (dig n).length = 1) := by
  intro m
  induction m with
  | zero => intro n h; rw [Nat.pow_zero] at h; rw [dig_lt n (by omega)]; simp
  | succ m ih =>
    intro n h
    by_cases h10 : n < 10
    · rw [dig_lt n h10]; simp
    · rw [dig_ge n h10, List.length_append, List.length_singleton]
      have := ih (n / 10) (by rw [Nat.pow_succ] at h; omega)
      have h3 : 0 < m := by
        rcases Nat.eq_zero_or_pos m with h | h4
        · subst h; simp at h; omega
        · exact h4
      omega
theorem lit_at : ∀ n, n < 10 → (⟨#[48, 49, 50, 51, 52, 53, 54, 55, 56, 57]⟩ : ByteArray).extract n (n + 1) = bs [dg n] := by decide
theorem lit_atI (n : Nat) (h : n < 10) : (⟨#[48, 49, 50, 51, 52, 53, 54, 55, 56, 57]⟩ : ByteArray).extract (n : Int).toNat (wrap64 ((n : Int) + 1)).toNat = bs [dg n] := by
  have e : (wrap64 ((n : Int) + 1)).toNat = n + 1 := by unfold wrap64; omega
  rw [e, Int.toNat_natCast]
  exact lit_at n h
theorem tdiv10 (n : Nat) (h : n ≤ 9223372036854775807) : wrap64 (Int.tdiv (n : Int) 10) = ((n / 10 : Nat) : Int) := by
  rw [Int.tdiv_eq_ediv_of_nonneg (by omega), w64 (by omega) (by omega)]; omega
theorem tmod10 (n : Nat) : Int.tmod (n : Int) 10 = ((n % 10 : Nat) : Int) := by
  rw [Int.tmod_eq_emod_of_nonneg (by omega)]; omega

theorem l1Text_small (n k : Nat) (h10 : n < 10) : spec_l1Text.f (k + 1) (n : Int) = some (bs (dig n)) := by
  simp only [spec_l1Text.f]
  rw [if_neg (by omega)]
  have e : wrap64 ((n : Int) + 1) = (n : Int) + 1 := w64 (by omega) (by omega)
  rw [if_pos (by omega), if_pos (by omega), if_pos (by omega), if_pos (by omega), lit_atI n h10, dig_lt n h10]
theorem text_tail (t : ByteArray) (m : Nat) (hm : m < 10) (hz : t.size ≤ 1000) : (if 0 ≤ (m : Int) then (if (m : Int) ≤ wrap64 ((m : Int) + 1) then (if wrap64 ((m : Int) + 1) ≤ 10 then (if t.size + ((⟨#[48, 49, 50, 51, 52, 53, 54, 55, 56, 57]⟩ : ByteArray).extract (m : Int).toNat (wrap64 ((m : Int) + 1)).toNat).size ≤ 9223372036854775807 then (some (t ++ ((⟨#[48, 49, 50, 51, 52, 53, 54, 55, 56, 57]⟩ : ByteArray).extract (m : Int).toNat (wrap64 ((m : Int) + 1)).toNat))) else none) else none) else none) else none) = some (t ++ bs [dg m]) := by
  rw [lit_atI m hm]
  have e : wrap64 ((m : Int) + 1) = (m : Int) + 1 := w64 (by omega) (by omega)
  have hq : t.size + (bs [dg m]).size ≤ 9223372036854775807 := by rw [bs_size, List.length_singleton]; omega
  rw [e, if_pos (by omega), if_pos (by omega), if_pos (by omega), if_pos hq]
theorem l1Text_big (n k : Nat) (l : List UInt8) (h10 : ¬ n < 10) (hn : n ≤ 9223372036854775807) (hl : l.length ≤ 1000) (ht : spec_l1Text.f k ((n / 10 : Nat) : Int) = some (bs l)) : spec_l1Text.f (k + 1) (n : Int) = some (bs (l ++ [dg (n % 10)])) := by
  have hz : (bs l).size ≤ 1000 := by rw [bs_size]; exact hl
  have hm : n % 10 < 10 := Nat.mod_lt _ (by omega)
  have e := text_tail (bs l) (n % 10) hm hz
  simp only [spec_l1Text.f]
  rw [if_neg (by omega), if_neg (by omega), tdiv10 n hn, ht, tmod10 n, Option.bind_some, e, bs_app]
theorem l1Text_eq : ∀ (m n k : Nat), n < 10 ^ m → n ≤ 9223372036854775807 → m ≤ 100 → m < k → spec_l1Text.f k (n : Int) = some (bs (dig n)) := by
  intro m
  induction m with
  | zero =>
    intro n k h _ _ hk
    obtain ⟨k, rfl⟩ : ∃ q, k = q + 1 := ⟨k - 1, by omega⟩
    rw [Nat.pow_zero] at h
    exact l1Text_small n k (by omega)
  | succ m ih =>
    intro n k h hn hm hk
    obtain ⟨k, rfl⟩ : ∃ q, k = q + 1 := ⟨k - 1, by omega⟩
    by_cases h10 : n < 10
    · exact l1Text_small n k h10
    · have hp : n / 10 < 10 ^ m := by rw [Nat.pow_succ] at h; omega
      have hlen := dig_len m (n / 10) hp
      have hd : n / 10 ≤ n := Nat.div_le_self _ _
      rw [dig_ge n h10]
      exact l1Text_big n k _ h10 hn (by omega) (ih (n / 10) k hp (Nat.le_trans hd hn) (by omega) (by omega))

theorem digit_num (n : Nat) : strOfNums ([wrap64 (48 + Int.tmod (n : Int) 10) % 256] : List Int) = bs [dg (n % 10)] := by
  rw [tmod10 n, w64 (by omega) (by omega)]
  unfold strOfNums bs dg
  have e : ((48 + ((n % 10 : Nat) : Int)) % 256) = ((48 + n % 10 : Nat) : Int) := by omega
  rw [e]
  rfl
theorem decLoop_end (k : Nat) (acc : ByteArray) : impl_decimal.l0 (k + 1) ((0 : Nat) : Int) acc = some acc := by
  simp only [impl_decimal.l0]
  rw [if_neg (by omega)]
theorem decLoop_go (n k : Nat) (acc : List UInt8) (h0 : n ≠ 0) (hn : n ≤ 9223372036854775807) (hl : acc.length ≤ 1000) : impl_decimal.l0 (k + 1) (n : Int) (bs acc) = impl_decimal.l0 k ((n / 10 : Nat) : Int) (bs (dg (n % 10) :: acc)) := by
  have hz : (bs [dg (n % 10)]).size + (bs acc).size ≤ 9223372036854775807 := by rw [bs_size, bs_size, List.length_singleton]; omega
  simp only [impl_decimal.l0, Option.bind_some]
  rw [if_pos (by omega), digit_num n, tdiv10 n hn, if_pos hz, bs_app]; rfl
theorem decLoop : ∀ (m n k : Nat) (acc : List UInt8), n < 10 ^ m → n ≤ 9223372036854775807 → m < k → acc.length + m ≤ 1000 → impl_decimal.l0 k (n : Int) (bs acc) = some (bs ((if n = 0 then [] else dig n) ++ acc)) := by
  intro m
  induction m with
  | zero =>
    intro n k acc h _ hk _
    obtain ⟨k, rfl⟩ : ∃ q, k = q + 1 := ⟨k - 1, by omega⟩
    rw [Nat.pow_zero] at h
    obtain rfl : n = 0 := by omega
    exact decLoop_end k _
  | succ m ih =>
    intro n k acc h hn hk hl
    obtain ⟨k, rfl⟩ : ∃ q, k = q + 1 := ⟨k - 1, by omega⟩
    by_cases h0 : n = 0
    · subst h0; exact decLoop_end k _
    · have hp : n / 10 < 10 ^ m := by rw [Nat.pow_succ] at h; omega
      have hd : n / 10 ≤ n := Nat.div_le_self _ _
      rw [decLoop_go n k acc h0 hn (by omega), ih (n / 10) k _ hp (Nat.le_trans hd hn) (by omega) (by simp; omega), if_neg h0]
      by_cases h10 : n < 10
      · rw [if_pos (by omega), dig_lt n h10, show n % 10 = n by omega]; rfl
      · rw [if_neg (by omega), dig_ge n h10, List.append_assoc]; rfl
theorem decimal_go (n k : Nat) (hn : n ≤ 9223372036854775807) : impl_decimal.f (k + 1) (n : Int) = impl_decimal.l0 k ((n / 10 : Nat) : Int) (bs [dg (n % 10)]) := by
  simp only [impl_decimal.f]
  rw [if_neg (by omega), digit_num n, tdiv10 n hn]
theorem decimal_eq (m n k : Nat) (h : n < 10 ^ m) (hn : n ≤ 9223372036854775807) (hm : m ≤ 500) (hk : m + 1 < k) : impl_decimal.f k (n : Int) = some (bs (dig n)) := by
  obtain ⟨k, rfl⟩ : ∃ q, k = q + 1 := ⟨k - 1, by omega⟩
  have hd : n / 10 ≤ n := Nat.div_le_self _ _
  rw [decimal_go n k hn, decLoop m (n / 10) k _ (Nat.lt_of_le_of_lt hd h) (Nat.le_trans hd hn) (by omega) (by simp; omega)]
  by_cases h10 : n < 10
  · rw [if_pos (by omega), dig_lt n h10, show n % 10 = n by omega]; rfl
  · rw [if_neg (by omega), dig_ge n h10]

/-- p digits of a number, the last ones. -/
def fx : Nat → Nat → List UInt8
  | 0, _ => []
  | p + 1, n => fx p (n / 10) ++ [dg (n % 10)]
theorem fx_len : ∀ (p n : Nat), (fx p n).length = p := by
  intro p
  induction p with
  | zero => intro n; rfl
  | succ p ih => intro n; unfold fx; rw [List.length_append, ih]; rfl
theorem fx_zero : ∀ p, fx p 0 = List.replicate p 48 := by
  intro p
  induction p with
  | zero => rfl
  | succ p ih => unfold fx; rw [Nat.zero_div, ih, List.replicate_succ']; rfl
theorem fx_mod : ∀ (p n : Nat), fx p (n % 10 ^ p) = fx p n := by
  intro p
  induction p with
  | zero => intro n; rfl
  | succ p ih =>
    intro n
    unfold fx
    have h1 : n % 10 ^ (p + 1) / 10 = (n / 10) % 10 ^ p := by
      rw [Nat.pow_succ, Nat.mul_comm, Nat.mod_mul_right_div_self]
    have h2 : n % 10 ^ (p + 1) % 10 = n % 10 := by
      rw [Nat.pow_succ, Nat.mul_comm, Nat.mod_mul_right_mod]
    rw [h1, h2, ih]
theorem dig_one : ∀ (p r : Nat), r < 10 ^ p → dig (10 ^ p + r) = 49 :: fx p r := by
  intro p
  induction p with
  | zero => intro r h; rw [Nat.pow_zero] at h; obtain rfl : r = 0 := by omega
            rw [Nat.pow_zero, Nat.add_zero, dig_lt 1 (by omega)]; rfl
  | succ p ih =>
    intro r h
    rw [Nat.pow_succ] at h
    have hp : 0 < 10 ^ p := Nat.pow_pos (by omega)
    rw [Nat.pow_succ, dig_ge _ (by omega), show (10 ^ p * 10 + r) / 10 = 10 ^ p + r / 10 by omega, show (10 ^ p * 10 + r) % 10 = r % 10 by omega, ih (r / 10) (by omega)]
    rfl
def padz (p n : Nat) : List UInt8 := List.replicate (p + 1 - (dig n).length) 48 ++ dig n
theorem padz_eq : ∀ (p n : Nat), padz p n = dig (n / 10 ^ p) ++ fx p n := by
  intro p
  induction p with
  | zero =>
    intro n
    unfold padz fx
    have : 1 ≤ (dig n).length := (dig_len (n + 1) n (by exact Nat.lt_of_lt_of_le (Nat.lt_pow_self (by omega)) (Nat.pow_le_pow_right (by omega) (Nat.le_succ n)))).1
    rw [show 0 + 1 - (dig n).length = 0 by omega]
    simp
  | succ p ih =>
    intro n
    unfold fx
    by_cases h10 : n < 10
    · have hq : n / 10 ^ (p + 1) = 0 := by
        apply Nat.div_eq_of_lt
        have : 10 ≤ 10 ^ (p + 1) := by rw [Nat.pow_succ]; have := Nat.pow_pos (n := p) (show 0 < 10 by omega); omega
        omega
      rw [hq, show n / 10 = 0 by omega, fx_zero, show n % 10 = n by omega]
      unfold padz
      rw [dig_lt n h10, dig_lt 0 (by omega), List.length_singleton, show p + 1 + 1 - 1 = p + 1 by omega, List.replicate_succ]
      rfl
    · have h2 := ih (n / 10)
      unfold padz at h2 ⊢
      rw [dig_ge n h10, List.length_append, List.length_singleton, show p + 1 + 1 - ((dig (n / 10)).length + 1) = p + 1 - (dig (n / 10)).length by omega, ← List.append_assoc, h2, Nat.div_div_eq_div_mul, Nat.pow_succ, Nat.mul_comm 10, List.append_assoc]

theorem two_dec (a b : Prop) [Decidable a] [Decidable b] : (if a then some (decide b) else some false) = some (decide (a ∧ b)) := by
  by_cases h : a
  · rw [if_pos h]; congr 1; rw [decide_eq_decide]; exact ⟨fun hb => ⟨h, hb⟩, fun hb => hb.2⟩
  · rw [if_neg h]; congr 1; symm; rw [decide_eq_false_iff_not]; exact fun hb => h hb.1

theorem l1In_eq (a b c : Int) : spec_l1In.f a b c = some (decide (b ≤ a ∧ a ≤ c)) := by unfold spec_l1In.f; exact two_dec (a ≥ b) (a ≤ c)

theorem between_eq (a b c : Int) : impl_between.f a b c = some (decide (b ≤ a ∧ a ≤ c)) := by unfold impl_between.f; exact two_dec (a ≥ b) (a ≤ c)

/-- An amount, not below 0, as it is written. -/
def showN (n p : Nat) : List UInt8 := if p = 0 then dig n else dig (n / 10 ^ p) ++ 46 :: fx p n
/-- An amount as it is written. -/
def showM (a p : Int) : ByteArray :=
  if (-100000000000 ≤ a ∧ a ≤ 100000000000) ∧ (0 ≤ p ∧ p ≤ 6) then (if a < 0 then bs (45 :: showN (-a).toNat p.toNat) else bs (showN a.toNat p.toNat)) else bs []
theorem l1Ten_eq : ∀ (p : Nat) (k : Nat) (x : Nat), p < k → p ≤ 6 → x * 10 ^ p ≤ 1000000000000 → spec_l1Ten.l0 k (p : Int) (x : Int) = some ((x * 10 ^ p : Nat) : Int) := by
  intro p
  induction p with
  | zero =>
    intro k x hk _ _
    obtain ⟨k, rfl⟩ : ∃ q, k = q + 1 := ⟨k - 1, by omega⟩
    simp only [spec_l1Ten.l0]
    rw [if_neg (by omega), Nat.pow_zero, Nat.mul_one]
  | succ p ih =>
    intro k x hk hp6 hx
    obtain ⟨k, rfl⟩ : ∃ q, k = q + 1 := ⟨k - 1, by omega⟩
    have h2 : 0 < 10 ^ p := Nat.pow_pos (by omega)
    have h3 : x * 10 * 10 ^ p = x * 10 ^ (p + 1) := by rw [Nat.pow_succ, Nat.mul_assoc, Nat.mul_comm 10]
    have h4 : x * 10 ≤ x * 10 * 10 ^ p := Nat.le_mul_of_pos_right _ h2
    simp only [spec_l1Ten.l0]
    have e1 : wrap64 (((p + 1 : Nat) : Int) - 1) = (p : Int) := by unfold wrap64; omega
    have e2 : wrap64 ((x : Int) * 10) = ((x * 10 : Nat) : Int) := by rw [w64 (by omega) (by omega)]; omega
    rw [if_pos (by omega), e1, e2, ih k (x * 10) (by omega) (by omega) (by omega), h3]
theorem tens (p : Nat) (h : p ≤ 6) : 1 ≤ 10 ^ p ∧ 10 ^ p ≤ 1000000 := by
  rcases (by omega : p = 0 ∨ p = 1 ∨ p = 2 ∨ p = 3 ∨ p = 4 ∨ p = 5 ∨ p = 6) with rfl | rfl | rfl | rfl | rfl | rfl | rfl <;> omega
theorem dig_len12 (n : Nat) (h : n ≤ 100000000000) : (dig n).length ≤ 13 := by
  have := dig_len 12 n (by omega)
  omega
theorem tail_app (l : List UInt8) (b : UInt8) : (bs (b :: l)).extract 1 (bs (b :: l)).size = bs l := by
  rw [bs_ext, bs_size]; simp
theorem moneySpecT (n p k T Q R : Nat) (A F : List UInt8) (hn : n ≤ 100000000000) (hp : p ≤ 6) (hT : 1 ≤ T ∧ T ≤ 1000000) (hQ : Q ≤ 100000000000) (hR : R < T) (hd : Int.tdiv (n : Int) (T : Int) = (Q : Int)) (hm : Int.tmod (n : Int) (T : Int) = (R : Int))
    (hten : spec_l1Ten.f k (p : Int) = some (T : Int)) (t1 : spec_l1Text.f k (Q : Int) = some (bs A)) (t2 : spec_l1Text.f k ((T + R : Nat) : Int) = some (bs (49 :: F))) (hl : A.length ≤ 13) (hB : F.length = p) :
    spec_ShowMoney.f (k + 2) (n : Int) (p : Int) = some (bs (if p = 0 then A else A ++ 46 :: F)) := by
  simp only [spec_ShowMoney.f]
  unfold spec_l1Amount.f
  rw [l1In_eq, Option.bind_some, Option.bind_some, if_pos (decide_eq_true (by omega)), l1In_eq, Option.bind_some]
  simp only [spec_ShowMoney.j0]
  rw [decide_eq_true (show (0 : Int) ≤ (p : Int) ∧ (p : Int) ≤ 6 by omega), if_neg (by simp), if_neg (by omega), hten, Option.bind_some, if_neg (by omega), hd, hm, w64 (x := (Q : Int)) (by omega) (by omega), t1, Option.bind_some]
  by_cases h0 : p = 0
  · rw [if_neg (by omega), if_pos h0]
  · have e : wrap64 ((T : Int) + (R : Int)) = ((T + R : Nat) : Int) := by rw [w64 (by omega) (by omega)]; omega
    have c1 : (bs A).size + 1 ≤ 9223372036854775807 := by rw [bs_size]; omega
    have c2 : (1 : Int) ≤ ((bs (49 :: F)).size : Int) := by rw [bs_size, List.length_cons]; omega
    have c3 : (bs A ++ (⟨#[46]⟩ : ByteArray)).size + ((bs (49 :: F)).extract 1 (bs (49 :: F)).size).size ≤ 9223372036854775807 := by
      rw [tail_app, show (⟨#[46]⟩ : ByteArray) = bs [46] from rfl, bs_app, bs_size, bs_size, List.length_append, List.length_singleton]; omega
    rw [if_pos (by omega), e, t2, Option.bind_some, if_pos c1, if_pos c2, if_pos c3, tail_app, show (⟨#[46]⟩ : ByteArray) = bs [46] from rfl, bs_app, bs_app, if_neg h0, List.append_assoc]
    rfl
theorem moneySpecN (n p k : Nat) (hn : n ≤ 100000000000) (hp : p ≤ 6) (hk : 30 ≤ k) : spec_ShowMoney.f (k + 2) (n : Int) (p : Int) = some (bs (showN n p)) := by
  have ht := tens p hp
  have hq : n / 10 ^ p ≤ 100000000000 := Nat.le_trans (Nat.div_le_self _ _) hn
  have hr : n % 10 ^ p < 10 ^ p := Nat.mod_lt _ (by omega)
  have hd : Int.tdiv (n : Int) ((10 ^ p : Nat) : Int) = ((n / 10 ^ p : Nat) : Int) := by
    rw [Int.tdiv_eq_ediv_of_nonneg (by omega)]; exact (Int.natCast_ediv _ _).symm
  have hm : Int.tmod (n : Int) ((10 ^ p : Nat) : Int) = ((n % 10 ^ p : Nat) : Int) := by
    rw [Int.tmod_eq_emod_of_nonneg (by omega)]; exact (Int.natCast_emod _ _).symm
  have hten : spec_l1Ten.f k (p : Int) = some ((10 ^ p : Nat) : Int) := by
    unfold spec_l1Ten.f
    have := l1Ten_eq p k 1 (by omega) hp (by omega)
    rw [Nat.one_mul] at this
    exact this
  have t1 : spec_l1Text.f k ((n / 10 ^ p : Nat) : Int) = some (bs (dig (n / 10 ^ p))) := l1Text_eq 12 _ k (by omega) (by omega) (by omega) (by omega)
  have t2 : spec_l1Text.f k ((10 ^ p + n % 10 ^ p : Nat) : Int) = some (bs (49 :: fx p n)) := by
    rw [l1Text_eq 12 _ k (by omega) (by omega) (by omega) (by omega), dig_one p _ hr, fx_mod]
  rw [moneySpecT n p k (10 ^ p) (n / 10 ^ p) (n % 10 ^ p) _ _ hn hp ht hq hr hd hm hten t1 t2 (dig_len12 _ hq) (fx_len p n)]
  unfold showN
  by_cases h0 : p = 0
  · subst h0; rw [if_pos rfl, if_pos rfl, Nat.pow_zero, Nat.div_one]
  · rw [if_neg h0, if_neg h0]
theorem moneySpec (a p : Int) (h1 : -9223372036854775808 ≤ a ∧ a ≤ 9223372036854775807) (k : Nat) (hk : 40 ≤ k) : spec_ShowMoney.f k a p = some (showM a p) := by
  obtain ⟨k, rfl⟩ : ∃ q, k = q + 2 := ⟨k - 2, by omega⟩
  unfold showM
  by_cases hA : -100000000000 ≤ a ∧ a ≤ 100000000000
  · by_cases hp : 0 ≤ p ∧ p ≤ 6
    · rw [if_pos ⟨hA, hp⟩]
      obtain ⟨q, rfl⟩ : ∃ q : Nat, p = q := ⟨p.toNat, by omega⟩
      by_cases hneg : a < 0
      · obtain ⟨n, hn⟩ : ∃ n : Nat, -a = n := ⟨(-a).toNat, by omega⟩
        have e : wrap64 (-a) = (n : Int) := by rw [hn, w64 (by omega) (by omega)]
        obtain ⟨j, hj⟩ : ∃ j, k = j + 2 := ⟨k - 2, by omega⟩
        have hN := moneySpecN n q j (by omega) (by omega) (by omega)
        rw [← hj] at hN
        have hz : (showN n q).length ≤ 30 := by
          unfold showN
          have h3 := dig_len12 n (by omega)
          have h4 := dig_len12 (n / 10 ^ q) (Nat.le_trans (Nat.div_le_self _ _) (by omega))
          split
          · omega
          · rw [List.length_append, List.length_cons, fx_len]; omega
        rw [if_pos hneg, hn, Int.toNat_natCast, Int.toNat_natCast]
        generalize showN n q = S at hN hz
        have c1 : 1 + (bs S).size ≤ 9223372036854775807 := by rw [bs_size]; omega
        simp only [spec_ShowMoney.f]
        unfold spec_l1Amount.f
        rw [l1In_eq, Option.bind_some, Option.bind_some, if_pos (decide_eq_true (by omega)), l1In_eq, Option.bind_some]
        simp only [spec_ShowMoney.j0]
        rw [decide_eq_true (show (0 : Int) ≤ (q : Int) ∧ (q : Int) ≤ 6 by omega), if_neg (by simp), if_pos hneg, e, hN, Option.bind_some, if_pos c1, show (⟨#[45]⟩ : ByteArray) = bs [45] from rfl, bs_app]
        rfl
      · obtain ⟨n, rfl⟩ : ∃ n : Nat, a = n := ⟨a.toNat, by omega⟩
        rw [if_neg hneg, moneySpecN n q k (by omega) (by omega) (by omega), Int.toNat_natCast, Int.toNat_natCast]
    · rw [if_neg (fun h => hp h.2)]
      simp only [spec_ShowMoney.f]
      unfold spec_l1Amount.f
      rw [l1In_eq, Option.bind_some, Option.bind_some, if_pos (decide_eq_true (by omega)), l1In_eq, Option.bind_some]
      simp only [spec_ShowMoney.j0]
      rw [decide_eq_false hp]
      rfl
  · rw [if_neg (fun h => hA h.1)]
    simp only [spec_ShowMoney.f]
    unfold spec_l1Amount.f
    rw [l1In_eq, Option.bind_some, Option.bind_some, if_neg (by rw [decide_eq_true_eq]; omega)]
    rfl
theorem padLoop (p : Nat) (hp : p ≤ 6) (sg : List UInt8) (hsg : sg.length ≤ 1) : ∀ (d k : Nat) (l : List UInt8), l.length + d = max (p + 1) l.length → d < k → 1 ≤ l.length → l.length ≤ 20 → impl_ShowMoney.l0 k (p : Int) (bs sg) (bs l) =
    some (bs (sg ++ (if p = 0 then List.replicate d 48 ++ l else (List.replicate d 48 ++ l).take (l.length + d - p) ++ 46 :: (List.replicate d 48 ++ l).drop (l.length + d - p)))) := by
  intro d
  induction d with
  | zero =>
    intro k l hd hk h1 h2
    obtain ⟨k, rfl⟩ : ∃ q, k = q + 1 := ⟨k - 1, by omega⟩
    have hlp : p < l.length := by omega
    simp only [impl_ShowMoney.l0]
    have c0 : ¬ ((bs l).size : Int) ≤ (p : Int) := by rw [bs_size]; omega
    have e : wrap64 (((bs l).size : Int) - (p : Int)) = ((l.length - p : Nat) : Int) := by rw [bs_size, w64 (by omega) (by omega)]; omega
    rw [if_neg c0]
    by_cases h0 : p = 0
    · have c1 : (bs sg).size + (bs l).size ≤ 9223372036854775807 := by rw [bs_size, bs_size]; omega
      rw [if_pos (by omega), if_pos c1, bs_app, if_pos h0]; rfl
    · rw [if_neg (by omega), e, Int.toNat_natCast]
      have c2 : ((l.length - p : Nat) : Int) ≤ ((bs l).size : Int) := by rw [bs_size]; omega
      have hz : (bs l).size = l.length := bs_size l
      rw [hz] at c2
      have eL : (bs l).extract 0 (l.length - p) = bs (l.take (l.length - p)) := by rw [bs_ext, List.drop_zero]
      have eR : (bs l).extract (l.length - p) l.length = bs (l.drop (l.length - p)) := by rw [bs_ext, List.take_length]
      have c3 : (bs sg).size + (bs (l.take (l.length - p))).size ≤ 9223372036854775807 := by rw [bs_size, bs_size, List.length_take]; omega
      have c4 : (bs sg ++ bs (l.take (l.length - p))).size + 1 ≤ 9223372036854775807 := by rw [bs_app, bs_size, List.length_append, List.length_take]; omega
      have c5 : ((bs sg ++ bs (l.take (l.length - p))) ++ (⟨#[46]⟩ : ByteArray)).size + (bs (l.drop (l.length - p))).size ≤ 9223372036854775807 := by
        rw [bs_app, show (⟨#[46]⟩ : ByteArray) = bs [46] from rfl, bs_app, bs_size, bs_size, List.length_append, List.length_append, List.length_take, List.length_drop, List.length_singleton]; omega
      rw [if_pos (by omega), hz, if_pos c2, eL, eR, if_pos c3, if_pos c4, if_pos c5, show (⟨#[46]⟩ : ByteArray) = bs [46] from rfl, bs_app, bs_app, bs_app, if_neg h0]
      simp only [List.replicate_zero, List.nil_append, Nat.add_zero, List.append_assoc, List.singleton_append]
  | succ d ih =>
    intro k l hd hk h1 h2
    obtain ⟨k, rfl⟩ : ∃ q, k = q + 1 := ⟨k - 1, by omega⟩
    have hlp : l.length ≤ p := by omega
    have c0 : ((bs l).size : Int) ≤ (p : Int) := by rw [bs_size]; omega
    have c1 : 1 + (bs l).size ≤ 9223372036854775807 := by rw [bs_size]; omega
    simp only [impl_ShowMoney.l0]
    rw [if_pos c0, if_pos c1, show (⟨#[48]⟩ : ByteArray) = bs [48] from rfl, bs_app, ih k ([48] ++ l) (by simp; omega) (by omega) (by simp) (by simp; omega)]
    have e1 : List.replicate d (48 : UInt8) ++ ([48] ++ l) = List.replicate (d + 1) 48 ++ l := by rw [List.replicate_succ', List.append_assoc]
    have e2 : ([48] ++ l).length + d = l.length + (d + 1) := by simp; omega
    rw [e1, e2]
theorem moneyImplN (n p k : Nat) (sg : List UInt8) (hsg : sg.length ≤ 1) (hn : n ≤ 100000000000) (hp : p ≤ 6) (hk : 30 ≤ k) : impl_ShowMoney.j1 (k + 1) (n : Int) (p : Int) (bs sg) = some (bs (sg ++ showN n p)) := by
  simp only [impl_ShowMoney.j1]
  have hl := dig_len12 n hn
  have hl1 : 1 ≤ (dig n).length := (dig_len 12 n (by omega)).1
  have hpz := padz_eq p n
  rw [decimal_eq 12 n k (by omega) (by omega) (by omega) (by omega), Option.bind_some, padLoop p hp sg hsg (p + 1 - (dig n).length) k (dig n) (by omega) (by omega) hl1 (by omega)]
  unfold padz at hpz
  unfold showN
  have hB : (fx p n).length = p := fx_len p n
  by_cases h0 : p = 0
  · subst h0
    rw [if_pos rfl, if_pos rfl, show 0 + 1 - (dig n).length = 0 by omega]
    rfl
  · rw [if_neg h0, if_neg h0, hpz]
    have hlen := congrArg List.length hpz
    rw [List.length_append, List.length_append, List.length_replicate, hB] at hlen
    rw [show (dig n).length + (p + 1 - (dig n).length) - p = (dig (n / 10 ^ p)).length by omega, List.take_left, List.drop_left]
theorem moneyImpl (a p : Int) (h1 : -9223372036854775808 ≤ a ∧ a ≤ 9223372036854775807) (k : Nat) (hk : 40 ≤ k) : impl_ShowMoney.f k a p = some (showM a p) := by
  obtain ⟨k, rfl⟩ : ∃ q, k = q + 2 := ⟨k - 2, by omega⟩
  unfold showM impl_ShowMoney.f impl_amount.f
  rw [between_eq, Option.bind_some, Option.bind_some]
  by_cases hA : -100000000000 ≤ a ∧ a ≤ 100000000000
  · rw [if_pos (decide_eq_true hA), between_eq, Option.bind_some]
    by_cases hp : 0 ≤ p ∧ p ≤ 6
    · rw [if_pos ⟨hA, hp⟩, decide_eq_true hp]
      simp only [impl_ShowMoney.j0]
      rw [if_neg (by simp)]
      obtain ⟨q, rfl⟩ : ∃ q : Nat, p = q := ⟨p.toNat, by omega⟩
      by_cases hneg : a < 0
      · obtain ⟨n, hn⟩ : ∃ n : Nat, -a = n := ⟨(-a).toNat, by omega⟩
        have e : wrap64 (-a) = (n : Int) := by rw [hn, w64 (by omega) (by omega)]
        rw [if_pos hneg, if_pos hneg, e, show (⟨#[45]⟩ : ByteArray) = bs [45] from rfl, moneyImplN n q k [45] (by simp) (by omega) (by omega) (by omega), hn, Int.toNat_natCast, Int.toNat_natCast]
        rfl
      · obtain ⟨n, rfl⟩ : ∃ n : Nat, a = n := ⟨a.toNat, by omega⟩
        rw [if_neg hneg, if_neg hneg, show (⟨#[]⟩ : ByteArray) = bs [] from rfl, moneyImplN n q k [] (by simp) (by omega) (by omega) (by omega), Int.toNat_natCast, Int.toNat_natCast]
        rfl
    · rw [if_neg (fun h => hp h.2), decide_eq_false hp]
      rfl
  · rw [if_neg (show ¬ ((-100000000000 ≤ a ∧ a ≤ 100000000000) ∧ (0 ≤ p ∧ p ≤ 6)) from fun h => hA h.1), if_neg (by rw [decide_eq_true_eq]; exact hA)]
    rfl

theorem FnExactShowMoney : laws_FnExactShowMoney.Pure := by
  intro a p ha hp
  have h1 := wf64 ha
  refine ⟨100, ?_⟩
  unfold laws_FnExactShowMoney.f
  rw [moneySpec a p h1 100 (by omega), Option.bind_some, moneyImpl a p h1 100 (by omega), Option.bind_some, if_pos rfl]

end Go.Proofs.Ytegkhdobjcdfnaa.Pure
