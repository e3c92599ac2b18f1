/- The program's ReadMoney answers as the reference's at every text and number of places. Conditions: none. -/
import Derived.Test.YtegkhdobjcdfnafPFnExactReadMoneyx0
import Derived.Test.YtegkhdobjcdfnafPFnExactReadMoneyx1
import Derived.Test.YtegkhdobjcdfnafPFnExactReadMoneyx2
import Derived.Test.YtegkhdobjcdfnafPFnExactReadMoneyx3
import Derived.Test.YtegkhdobjcdfnafPFnExactReadMoneyx4
import Derived.Test.YtegkhdobjcdfnafPFnExactReadMoneyx5
import Derived.Test.YtegkhdobjcdfnafPureAid
import Derived.Test.YtegkhdobjcdfnafWMore
namespace Go.Proofs.Ytegkhdobjcdfnaf.Pure
open Go Go.RowKit Go.Proofs.Ytegkhdobjcdfnaf.PFnExactReadMoney Go.Proofs.YtegkhdobjcdfnafW.PrintWords Go.Proofs.YtegkhdobjcdfnafW.PrintLast Go.Proofs.Ytegkhdobjcdfnaf.Aid
set_option linter.unusedVariables false
set_option linter.unusedSimpArgs false
set_option maxRecDepth 100000
set_option maxHeartbeats 4000000
def bs (l : List UInt8) : ByteArray := ⟨l.toArray⟩
theorem bs_size (l : List UInt8) : (bs l).size = l.length := by unfold bs; simp [ByteArray.size]
theorem bs_app (a b : List UInt8) : bs a ++ bs b = bs (a ++ b) := by
  unfold bs
  apply ByteArray.ext
  simp
theorem bs_ext (l : List UInt8) (u v : Nat) : (bs l).extract u v = bs ((l.take v).drop u) := by
  unfold bs
  apply ByteArray.ext
  simp [ByteArray.data_extract, List.extract_eq_take_drop, List.drop_take]
def dg (n : Nat) : UInt8 := UInt8.ofNat (48 + n)
/-- The digits of a number, b of them at most. -/
def digF : Nat → Nat → List UInt8
  | 0, n => [dg n]
  | b + 1, n => if n < 10 then [dg n] else digF b (n / 10) ++ [dg (n % 10)]
theorem digF_more : ∀ (b c n : Nat), n ≤ b → n ≤ c → digF b n = digF c n := by
  intro b
  induction b with
  | zero =>
    intro c n h1 h2
    obtain rfl : n = 0 := by omega
    cases c <;> rfl
  | succ b ih =>
    intro c n h1 h2
    cases c with
    | zero => obtain rfl : n = 0 := by omega
              rfl
    | succ c =>
      unfold digF
      by_cases h : n < 10
      · rw [if_pos h, if_pos h]
      · rw [if_neg h, if_neg h, ih c (n / 10) (by omega) (by omega)]
/-- The digits of a number. -/
def dig (n : Nat) : List UInt8 := digF n n
theorem dig_lt (n : Nat) (h : n < 10) : dig n = [dg n] := by
  unfold dig
  cases n with
  | zero => rfl
  | succ n => unfold digF; rw [if_pos h]
theorem dig_ge (n : Nat) (h : ¬ n < 10) : dig n = dig (n / 10) ++ [dg (n % 10)] := by
  unfold dig
  obtain ⟨m, rfl⟩ : ∃ m, n = m + 1 := ⟨n - 1, by omega⟩
  rw [digF_more ((m + 1) / 10) m ((m + 1) / 10) (Nat.le_refl _) (by omega)]
  show (if m + 1 < 10 then _ else _) = _
  rw [if_neg h]
theorem dig_len : ∀ (m n : Nat), n < 10 ^ m → 1 ≤ (dig n).length ∧ ((dig n).length ≤ m ∨ (dig n).length = 1) := by
  intro m
  induction m with
  | zero => intro n h; rw [Nat.pow_zero] at h; rw [dig_lt n (by omega)]; simp
  | succ m ih =>
    intro n h
    by_cases h10 : n < 10
    · rw [dig_lt n h10]; simp
    · rw [dig_ge n h10, List.length_append, List.length_singleton]
      have := ih (n / 10) (by rw [Nat.pow_succ] at h; omega)
      have h3 : 0 < m := by
        rcases Nat.eq_zero_or_pos m with h | h4
        · subst h; simp at h; omega
        · exact h4
      omega
theorem lit_at : ∀ n, n < 10 → (⟨#[48, 49, 50, 51, 52, 53, 54, 55, 56, 57]⟩ : ByteArray).extract n (n + 1) = bs [dg n] := by decide
theorem lit_atI (n : Nat) (h : n < 10) : (⟨#[48, 49, 50, 51, 52, 53, 54, 55, 56, 57]⟩ : ByteArray).extract (n : Int).toNat (wrap64 ((n : Int) + 1)).toNat = bs [dg n] := by
  have e : (wrap64 ((n : Int) + 1)).toNat = n + 1 := by unfold wrap64; omega
  rw [e, Int.toNat_natCast]
  exact lit_at n h
theorem tdiv10 (n : Nat) (h : n ≤ 9223372036854775807) : wrap64 (Int.tdiv (n : Int) 10) = ((n / 10 : Nat) : Int) := by
  rw [Int.tdiv_eq_ediv_of_nonneg (by omega), w64 (by omega) (by omega)]; omega
theorem tmod10 (n : Nat) : Int.tmod (n : Int) 10 = ((n % 10 : Nat) : Int) := by
  rw [Int.tmod_eq_emod_of_nonneg (by omega)]; omega

theorem l1Text_small (n k : Nat) (h10 : n < 10) : spec_l1Text.f (k + 1) (n : Int) = some (bs (dig n)) := by
  simp only [spec_l1Text.f]
  rw [if_neg (by omega)]
  have e : wrap64 ((n : Int) + 1) = (n : Int) + 1 := w64 (by omega) (by omega)
  rw [if_pos (by omega), if_pos (by omega), if_pos (by omega), if_pos (by omega), lit_atI n h10, dig_lt n h10]
theorem text_tail (t : ByteArray) (m : Nat) (hm : m < 10) (hz : t.size ≤ 1000) : (if 0 ≤ (m : Int) then (if (m : Int) ≤ wrap64 ((m : Int) + 1) then (if wrap64 ((m : Int) + 1) ≤ 10 then (if t.size + ((⟨#[48, 49, 50, 51, 52, 53, 54, 55, 56, 57]⟩ : ByteArray).extract (m : Int).toNat (wrap64 ((m : Int) + 1)).toNat).size ≤ 9223372036854775807 then (some (t ++ ((⟨#[48, 49, 50, 51, 52, 53, 54, 55, 56, 57]⟩ : ByteArray).extract (m : Int).toNat (wrap64 ((m : Int) + 1)).toNat))) else none) else none) else none) else none) = some (t ++ bs [dg m]) := by
  rw [lit_atI m hm]
  have e : wrap64 ((m : Int) + 1) = (m : Int) + 1 := w64 (by omega) (by omega)
  have hq : t.size + (bs [dg m]).size ≤ 9223372036854775807 := by rw [bs_size, List.length_singleton]; omega
  rw [e, if_pos (by omega), if_pos (by omega), if_pos (by omega), if_pos hq]
theorem l1Text_big (n k : Nat) (l : List UInt8) (h10 : ¬ n < 10) (hn : n ≤ 9223372036854775807) (hl : l.length ≤ 1000) (ht : spec_l1Text.f k ((n / 10 : Nat) : Int) = some (bs l)) : spec_l1Text.f (k + 1) (n : Int) = some (bs (l ++ [dg (n % 10)])) := by
  have hz : (bs l).size ≤ 1000 := by rw [bs_size]; exact hl
  have hm : n % 10 < 10 := Nat.mod_lt _ (by omega)
  have e := text_tail (bs l) (n % 10) hm hz
  simp only [spec_l1Text.f]
  rw [if_neg (by omega), if_neg (by omega), tdiv10 n hn, ht, tmod10 n, Option.bind_some, e, bs_app]
theorem l1Text_eq : ∀ (m n k : Nat), n < 10 ^ m → n ≤ 9223372036854775807 → m ≤ 100 → m < k → spec_l1Text.f k (n : Int) = some (bs (dig n)) := by
  intro m
  induction m with
  | zero =>
    intro n k h _ _ hk
    obtain ⟨k, rfl⟩ : ∃ q, k = q + 1 := ⟨k - 1, by omega⟩
    rw [Nat.pow_zero] at h
    exact l1Text_small n k (by omega)
  | succ m ih =>
    intro n k h hn hm hk
    obtain ⟨k, rfl⟩ : ∃ q, k = q + 1 := ⟨k - 1, by omega⟩
    by_cases h10 : n < 10
    · exact l1Text_small n k h10
    · have hp : n / 10 < 10 ^ m := by rw [Nat.pow_succ] at h; omega
      have hlen := dig_len m (n / 10) hp
      have hd : n / 10 ≤ n := Nat.div_le_self _ _
      rw [dig_ge n h10]
      exact l1Text_big n k _ h10 hn (by omega) (ih (n / 10) k hp (Nat.le_trans hd hn) (by omega) (by omega))

theorem two_dec (a b : Prop) [Decidable a] [Decidable b] : (if a then some (decide b) else some false) = some (decide (a ∧ b)) := by
  by_cases h : a
  · rw [if_pos h]; congr 1; rw [decide_eq_decide]; exact ⟨fun hb => ⟨h, hb⟩, fun hb => hb.2⟩
  · rw [if_neg h]; congr 1; symm; rw [decide_eq_false_iff_not]; exact fun hb => h hb.1

theorem l1In_eq (a b c : Int) : spec_l1In.f a b c = some (decide (b ≤ a ∧ a ≤ c)) := by unfold spec_l1In.f; exact two_dec (a ≥ b) (a ≤ c)

/-- p digits of a number, the last ones. -/
def fx : Nat → Nat → List UInt8
  | 0, _ => []
  | p + 1, n => fx p (n / 10) ++ [dg (n % 10)]
theorem fx_len : ∀ (p n : Nat), (fx p n).length = p := by
  intro p
  induction p with
  | zero => intro n; rfl
  | succ p ih => intro n; unfold fx; rw [List.length_append, ih]; rfl
theorem fx_zero : ∀ p, fx p 0 = List.replicate p 48 := by
  intro p
  induction p with
  | zero => rfl
  | succ p ih => unfold fx; rw [Nat.zero_div, ih, List.replicate_succ']; rfl
theorem fx_mod : ∀ (p n : Nat), fx p (n % 10 ^ p) = fx p n := by
  intro p
  induction p with
  | zero => intro n; rfl
  | succ p ih =>
    intro n
    unfold fx
    have h1 : n % 10 ^ (p + 1) / 10 = (n / 10) % 10 ^ p := by
      rw [Nat.pow_succ, Nat.mul_comm, Nat.mod_mul_right_div_self]
    have h2 : n % 10 ^ (p + 1) % 10 = n % 10 := by
      rw [Nat.pow_succ, Nat.mul_comm, Nat.mod_mul_right_mod]
    rw [h1, h2, ih]
theorem dig_one : ∀ (p r : Nat), r < 10 ^ p → dig (10 ^ p + r) = 49 :: fx p r := by
  intro p
  induction p with
  | zero => intro r h; rw [Nat.pow_zero] at h; obtain rfl : r = 0 := by omega
            rw [Nat.pow_zero, Nat.add_zero, dig_lt 1 (by omega)]; rfl
  | succ p ih =>
    intro r h
    rw [Nat.pow_succ] at h
    have hp : 0 < 10 ^ p := Nat.pow_pos (by omega)
    rw [Nat.pow_succ, dig_ge _ (by omega), show (10 ^ p * 10 + r) / 10 = 10 ^ p + r / 10 by omega, show (10 ^ p * 10 + r) % 10 = r % 10 by omega, ih (r / 10) (by omega)]
    rfl
def padz (p n : Nat) : List UInt8 := List.replicate (p + 1 - (dig n).length) 48 ++ dig n
theorem padz_eq : ∀ (p n : Nat), padz p n = dig (n / 10 ^ p) ++ fx p n := by
  intro p
  induction p with
  | zero =>
    intro n
    unfold padz fx
    have : 1 ≤ (dig n).length := (dig_len (n + 1) n (by exact Nat.lt_of_lt_of_le (Nat.lt_pow_self (by omega)) (Nat.pow_le_pow_right (by omega) (Nat.le_succ n)))).1
    rw [show 0 + 1 - (dig n).length = 0 by omega]
    simp
  | succ p ih =>
    intro n
    unfold fx
    by_cases h10 : n < 10
    · have hq : n / 10 ^ (p + 1) = 0 := by
        apply Nat.div_eq_of_lt
        have : 10 ≤ 10 ^ (p + 1) := by rw [Nat.pow_succ]; have := Nat.pow_pos (n := p) (show 0 < 10 by omega); omega
        omega
      rw [hq, show n / 10 = 0 by omega, fx_zero, show n % 10 = n by omega]
      unfold padz
      rw [dig_lt n h10, dig_lt 0 (by omega), List.length_singleton, show p + 1 + 1 - 1 = p + 1 by omega, List.replicate_succ]
      rfl
    · have h2 := ih (n / 10)
      unfold padz at h2 ⊢
      rw [dig_ge n h10, List.length_append, List.length_singleton, show p + 1 + 1 - ((dig (n / 10)).length + 1) = p + 1 - (dig (n / 10)).length by omega, ← List.append_assoc, h2, Nat.div_div_eq_div_mul, Nat.pow_succ, Nat.mul_comm 10, List.append_assoc]

/-- An amount, not below 0, as it is written. -/
def showN (n p : Nat) : List UInt8 := if p = 0 then dig n else dig (n / 10 ^ p) ++ 46 :: fx p n
/-- An amount as it is written. -/
def showM (a p : Int) : ByteArray :=
  if (-100000000000 ≤ a ∧ a ≤ 100000000000) ∧ (0 ≤ p ∧ p ≤ 6) then (if a < 0 then bs (45 :: showN (-a).toNat p.toNat) else bs (showN a.toNat p.toNat)) else bs []
theorem tens (p : Nat) (h : p ≤ 6) : 1 ≤ 10 ^ p ∧ 10 ^ p ≤ 1000000 := by
  rcases (by omega : p = 0 ∨ p = 1 ∨ p = 2 ∨ p = 3 ∨ p = 4 ∨ p = 5 ∨ p = 6) with rfl | rfl | rfl | rfl | rfl | rfl | rfl <;> omega
theorem dig_len12 (n : Nat) (h : n ≤ 100000000000) : (dig n).length ≤ 13 := by
  have := dig_len 12 n (by omega)
  omega
theorem tail_app (l : List UInt8) (b : UInt8) : (bs (b :: l)).extract 1 (bs (b :: l)).size = bs l := by
  rw [bs_ext, bs_size]; simp

theorem l1Ten_eq : ∀ (p : Nat) (k : Nat) (x : Nat), p < k → p ≤ 6 → x * 10 ^ p ≤ 1000000000000 → spec_l1Ten.l0 k (p : Int) (x : Int) = some ((x * 10 ^ p : Nat) : Int) := by
  intro p
  induction p with
  | zero =>
    intro k x hk _ _
    obtain ⟨k, rfl⟩ : ∃ q, k = q + 1 := ⟨k - 1, by omega⟩
    simp only [spec_l1Ten.l0]
    rw [if_neg (by omega), Nat.pow_zero, Nat.mul_one]
  | succ p ih =>
    intro k x hk hp6 hx
    obtain ⟨k, rfl⟩ : ∃ q, k = q + 1 := ⟨k - 1, by omega⟩
    have h2 : 0 < 10 ^ p := Nat.pow_pos (by omega)
    have h3 : x * 10 * 10 ^ p = x * 10 ^ (p + 1) := by rw [Nat.pow_succ, Nat.mul_assoc, Nat.mul_comm 10]
    have h4 : x * 10 ≤ x * 10 * 10 ^ p := Nat.le_mul_of_pos_right _ h2
    simp only [spec_l1Ten.l0]
    have e1 : wrap64 (((p + 1 : Nat) : Int) - 1) = (p : Int) := by unfold wrap64; omega
    have e2 : wrap64 ((x : Int) * 10) = ((x * 10 : Nat) : Int) := by rw [w64 (by omega) (by omega)]; omega
    rw [if_pos (by omega), e1, e2, ih k (x * 10) (by omega) (by omega) (by omega), h3]
theorem moneySpecT (n p k T Q R : Nat) (A F : List UInt8) (hn : n ≤ 100000000000) (hp : p ≤ 6) (hT : 1 ≤ T ∧ T ≤ 1000000) (hQ : Q ≤ 100000000000) (hR : R < T) (hd : Int.tdiv (n : Int) (T : Int) = (Q : Int)) (hm : Int.tmod (n : Int) (T : Int) = (R : Int))
    (hten : spec_l1Ten.f k (p : Int) = some (T : Int)) (t1 : spec_l1Text.f k (Q : Int) = some (bs A)) (t2 : spec_l1Text.f k ((T + R : Nat) : Int) = some (bs (49 :: F))) (hl : A.length ≤ 13) (hB : F.length = p) :
    spec_ShowMoney.f (k + 2) (n : Int) (p : Int) = some (bs (if p = 0 then A else A ++ 46 :: F)) := by
  simp only [spec_ShowMoney.f]
  unfold spec_l1Amount.f
  rw [l1In_eq, Option.bind_some, Option.bind_some, if_pos (decide_eq_true (by omega)), l1In_eq, Option.bind_some]
  simp only [spec_ShowMoney.j0]
  rw [decide_eq_true (show (0 : Int) ≤ (p : Int) ∧ (p : Int) ≤ 6 by omega), if_neg (by simp), if_neg (by omega), hten, Option.bind_some, if_neg (by omega), hd, hm, w64 (x := (Q : Int)) (by omega) (by omega), t1, Option.bind_some]
  by_cases h0 : p = 0
  · rw [if_neg (by omega), if_pos h0]
  · have e : wrap64 ((T : Int) + (R : Int)) = ((T + R : Nat) : Int) := by rw [w64 (by omega) (by omega)]; omega
    have c1 : (bs A).size + 1 ≤ 9223372036854775807 := by rw [bs_size]; omega
    have c2 : (1 : Int) ≤ ((bs (49 :: F)).size : Int) := by rw [bs_size, List.length_cons]; omega
    have c3 : (bs A ++ (⟨#[46]⟩ : ByteArray)).size + ((bs (49 :: F)).extract 1 (bs (49 :: F)).size).size ≤ 9223372036854775807 := by
      rw [tail_app, show (⟨#[46]⟩ : ByteArray) = bs [46] from rfl, bs_app, bs_size, bs_size, List.length_append, List.length_singleton]; omega
    rw [if_pos (by omega), e, t2, Option.bind_some, if_pos c1, if_pos c2, if_pos c3, tail_app, show (⟨#[46]⟩ : ByteArray) = bs [46] from rfl, bs_app, bs_app, if_neg h0, List.append_assoc]
    rfl
theorem moneySpecN (n p k : Nat) (hn : n ≤ 100000000000) (hp : p ≤ 6) (hk : 30 ≤ k) : spec_ShowMoney.f (k + 2) (n : Int) (p : Int) = some (bs (showN n p)) := by
  have ht := tens p hp
  have hq : n / 10 ^ p ≤ 100000000000 := Nat.le_trans (Nat.div_le_self _ _) hn
  have hr : n % 10 ^ p < 10 ^ p := Nat.mod_lt _ (by omega)
  have hd : Int.tdiv (n : Int) ((10 ^ p : Nat) : Int) = ((n / 10 ^ p : Nat) : Int) := by
    rw [Int.tdiv_eq_ediv_of_nonneg (by omega)]; exact (Int.natCast_ediv _ _).symm
  have hm : Int.tmod (n : Int) ((10 ^ p : Nat) : Int) = ((n % 10 ^ p : Nat) : Int) := by
    rw [Int.tmod_eq_emod_of_nonneg (by omega)]; exact (Int.natCast_emod _ _).symm
  have hten : spec_l1Ten.f k (p : Int) = some ((10 ^ p : Nat) : Int) := by
    unfold spec_l1Ten.f
    have := l1Ten_eq p k 1 (by omega) hp (by omega)
    rw [Nat.one_mul] at this
    exact this
  have t1 : spec_l1Text.f k ((n / 10 ^ p : Nat) : Int) = some (bs (dig (n / 10 ^ p))) := l1Text_eq 12 _ k (by omega) (by omega) (by omega) (by omega)
  have t2 : spec_l1Text.f k ((10 ^ p + n % 10 ^ p : Nat) : Int) = some (bs (49 :: fx p n)) := by
    rw [l1Text_eq 12 _ k (by omega) (by omega) (by omega) (by omega), dig_one p _ hr, fx_mod]
  rw [moneySpecT n p k (10 ^ p) (n / 10 ^ p) (n % 10 ^ p) _ _ hn hp ht hq hr hd hm hten t1 t2 (dig_len12 _ hq) (fx_len p n)]
  unfold showN
  by_cases h0 : p = 0
  · subst h0; rw [if_pos rfl, if_pos rfl, Nat.pow_zero, Nat.div_one]
  · rw [if_neg h0, if_neg h0]
theorem moneySpec (a p : Int) (h1 : -9223372036854775808 ≤ a ∧ a ≤ 9223372036854775807) (k : Nat) (hk : 40 ≤ k) : spec_ShowMoney.f k a p = some (showM a p) := by
  obtain ⟨k, rfl⟩ : ∃ q, k = q + 2 := ⟨k - 2, by omega⟩
  unfold showM
  by_cases hA : -100000000000 ≤ a ∧ a ≤ 100000000000
  · by_cases hp : 0 ≤ p ∧ p ≤ 6
    · rw [if_pos ⟨hA, hp⟩]
      obtain ⟨q, rfl⟩ : ∃ q : Nat, p = q := ⟨p.toNat, by omega⟩
      by_cases hneg : a < 0
      · obtain ⟨n, hn⟩ : ∃ n : Nat, -a = n := ⟨(-a).toNat, by omega⟩
        have e : wrap64 (-a) = (n : Int) := by rw [hn, w64 (by omega) (by omega)]
        obtain ⟨j, hj⟩ : ∃ j, k = j + 2 := ⟨k - 2, by omega⟩
        have hN := moneySpecN n q j (by omega) (by omega) (by omega)
        rw [← hj] at hN
        have hz : (showN n q).length ≤ 30 := by
          unfold showN
          have h3 := dig_len12 n (by omega)
          have h4 := dig_len12 (n / 10 ^ q) (Nat.le_trans (Nat.div_le_self _ _) (by omega))
          split
          · omega
          · rw [List.length_append, List.length_cons, fx_len]; omega
        rw [if_pos hneg, hn, Int.toNat_natCast, Int.toNat_natCast]
        generalize showN n q = S at hN hz
        have c1 : 1 + (bs S).size ≤ 9223372036854775807 := by rw [bs_size]; omega
        simp only [spec_ShowMoney.f]
        unfold spec_l1Amount.f
        rw [l1In_eq, Option.bind_some, Option.bind_some, if_pos (decide_eq_true (by omega)), l1In_eq, Option.bind_some]
        simp only [spec_ShowMoney.j0]
        rw [decide_eq_true (show (0 : Int) ≤ (q : Int) ∧ (q : Int) ≤ 6 by omega), if_neg (by simp), if_pos hneg, e, hN, Option.bind_some, if_pos c1, show (⟨#[45]⟩ : ByteArray) = bs [45] from rfl, bs_app]
        rfl
      · obtain ⟨n, rfl⟩ : ∃ n : Nat, a = n := ⟨a.toNat, by omega⟩
        rw [if_neg hneg, moneySpecN n q k (by omega) (by omega) (by omega), Int.toNat_natCast, Int.toNat_natCast]
    · rw [if_neg (fun h => hp h.2)]
      simp only [spec_ShowMoney.f]
      unfold spec_l1Amount.f
      rw [l1In_eq, Option.bind_some, Option.bind_some, if_pos (decide_eq_true (by omega)), l1In_eq, Option.bind_some]
      simp only [spec_ShowMoney.j0]
      rw [decide_eq_false hp]
      rfl
  · rw [if_neg (fun h => hA h.1)]
    simp only [spec_ShowMoney.f]
    unfold spec_l1Amount.f
    rw [l1In_eq, Option.bind_some, Option.bind_some, if_neg (by rw [decide_eq_true_eq]; omega)]
    rfl

theorem between_eq (a b c : Int) : impl_between.f a b c = some (decide (b ≤ a ∧ a ≤ c)) := by unfold impl_between.f; exact two_dec (a ≥ b) (a ≤ c)

theorem bt_lt (s : ByteArray) (i : Nat) (h : i < s.size) : bt s (i : Int) = ((s[i]'h).toNat : Int) := by
  unfold bt
  rw [dif_pos (by simpa using h)]
  rfl
theorem bt_app_left (a b : ByteArray) (i : Nat) (h : i < a.size) : bt (a ++ b) (i : Int) = bt a (i : Int) := by
  rw [bt_lt _ _ (by rw [ByteArray.size_append]; omega), bt_lt _ _ h, ByteArray.getElem_append_left h]
theorem bt_app_right (a b : ByteArray) (i : Nat) (h : i < b.size) : bt (a ++ b) ((a.size + i : Nat) : Int) = bt b (i : Int) := by
  rw [bt_lt _ _ (by rw [ByteArray.size_append]; omega), bt_lt _ _ h, ByteArray.getElem_append_right (by omega)]
  simp
theorem bt_ext (s : ByteArray) (u v i : Nat) (h : u + i < v) (hv : v ≤ s.size) : bt (s.extract u v) (i : Int) = bt s ((u + i : Nat) : Int) := by
  rw [bt_lt _ _ (by rw [ByteArray.size_extract]; omega), bt_lt _ _ (by omega), ByteArray.getElem_extract]

theorem bs_self (s : ByteArray) : bs s.data.toList = s := by
  unfold bs
  apply ByteArray.ext
  simp
theorem bt_bs (l : List UInt8) (i : Nat) (h : i < l.length) : bt (bs l) (i : Int) = ((l[i]'h).toNat : Int) := by
  rw [bt_lt (bs l) i (by rw [bs_size]; exact h)]
  rfl

def isD (b : UInt8) : Bool := decide (48 ≤ b.toNat ∧ b.toNat ≤ 57)
theorem isD_iff (b : UInt8) : isD b = true ↔ 48 ≤ b.toNat ∧ b.toNat ≤ 57 := by unfold isD; rw [decide_eq_true_eq]
/-- The number that digits write, begun at n. -/
def val : List UInt8 → Nat → Nat
  | [], n => n
  | b :: l, n => val l (n * 10 + (b.toNat - 48))
theorem val_app : ∀ (a b : List UInt8) (n : Nat), val (a ++ b) n = val b (val a n) := by
  intro a
  induction a with
  | nil => intro b n; rfl
  | cons x a ih => intro b n; exact ih b _
theorem val_shift : ∀ (l : List UInt8) (n : Nat), val l n = n * 10 ^ l.length + val l 0 := by
  intro l
  induction l with
  | nil => intro n; simp [val]
  | cons b l ih =>
    intro n
    show val l _ = _ + val l _
    rw [ih (n * 10 + _), ih (0 * 10 + _), List.length_cons, Nat.pow_succ]
    have e : n * 10 * 10 ^ l.length = n * (10 ^ l.length * 10) := by rw [Nat.mul_assoc, Nat.mul_comm 10]
    rw [Nat.add_mul, Nat.zero_mul, Nat.zero_add, e, Nat.add_assoc]
theorem val_ge (l : List UInt8) (n : Nat) : n ≤ val l n := by
  rw [val_shift]
  have : n ≤ n * 10 ^ l.length := Nat.le_mul_of_pos_right _ (Nat.pow_pos (by omega))
  omega
theorem val_lt : ∀ (l : List UInt8), (∀ b ∈ l, isD b = true) → val l 0 < 10 ^ l.length := by
  intro l
  induction l with
  | nil => intro _; simp [val]
  | cons b l ih =>
    intro h
    have hb := (isD_iff b).1 (h b (by simp))
    have hl := ih (fun c hc => h c (by simp [hc]))
    show val l _ < _
    rw [val_shift, List.length_cons, Nat.pow_succ]
    have : (0 * 10 + (b.toNat - 48)) * 10 ^ l.length ≤ 9 * 10 ^ l.length := Nat.mul_le_mul_right _ (by omega)
    omega
theorem val_zeros : ∀ (d n : Nat), val (List.replicate d 48) n = n * 10 ^ d := by
  intro d
  induction d with
  | zero => intro n; simp [val]
  | succ d ih =>
    intro n
    show val (List.replicate d 48) (n * 10 + 0) = _
    rw [ih, Nat.add_zero, Nat.pow_succ, Nat.mul_assoc, Nat.mul_comm 10]
theorem dg_of (b : UInt8) (h : isD b = true) : dg (b.toNat - 48) = b := by
  rw [isD_iff] at h
  unfold dg
  rw [show 48 + (b.toNat - 48) = b.toNat by omega]
  exact UInt8.ofNat_toNat
theorem snoc_of (l : List UInt8) (n : Nat) (h : l.length = n + 1) : ∃ a b, l = a ++ [b] ∧ a.length = n := by
  have hne : l ≠ [] := by intro h0; rw [h0] at h; cases h
  refine ⟨l.dropLast, l.getLast hne, (List.dropLast_concat_getLast hne).symm, ?_⟩
  rw [List.length_dropLast]; omega
theorem fx_val : ∀ (n : Nat) (l : List UInt8), l.length = n → (∀ b ∈ l, isD b = true) → fx n (val l 0) = l := by
  intro n
  induction n with
  | zero => intro l hl _; rw [List.length_eq_zero_iff] at hl; subst hl; rfl
  | succ n ih =>
    intro l hl h
    obtain ⟨a, b, rfl, ha⟩ := snoc_of l n hl
    have hb := h b (by simp)
    have hb' := (isD_iff b).1 hb
    have e : val (a ++ [b]) 0 = val a 0 * 10 + (b.toNat - 48) := by rw [val_app]; rfl
    show fx n (val (a ++ [b]) 0 / 10) ++ [dg (val (a ++ [b]) 0 % 10)] = _
    rw [e, show (val a 0 * 10 + (b.toNat - 48)) / 10 = val a 0 by omega, show (val a 0 * 10 + (b.toNat - 48)) % 10 = b.toNat - 48 by omega, ih a ha (fun c hc => h c (by simp [hc])), dg_of b hb]
theorem dig_val : ∀ (n : Nat) (l : List UInt8), l.length = n + 1 → (∀ b ∈ l, isD b = true) → (n = 0 ∨ ∀ b t, l = b :: t → b.toNat ≠ 48) → dig (val l 0) = l := by
  intro n
  induction n with
  | zero =>
    intro l hl h _
    obtain ⟨a, b, rfl, ha⟩ := snoc_of l 0 hl
    rw [List.length_eq_zero_iff] at ha; subst ha
    have hb := h b (by simp)
    have hb' := (isD_iff b).1 hb
    show dig (0 * 10 + (b.toNat - 48)) = [b]
    rw [dig_lt _ (by omega), show 0 * 10 + (b.toNat - 48) = b.toNat - 48 by omega, dg_of b hb]
  | succ n ih =>
    intro l hl h h0
    obtain ⟨a, b, rfl, ha⟩ := snoc_of l (n + 1) hl
    have hb := h b (by simp)
    have hb' := (isD_iff b).1 hb
    have e : val (a ++ [b]) 0 = val a 0 * 10 + (b.toNat - 48) := by rw [val_app]; rfl
    obtain ⟨c, t, rfl⟩ : ∃ c t, a = c :: t := by cases a with
      | nil => cases ha
      | cons c t => exact ⟨c, t, rfl⟩
    have hc : c.toNat ≠ 48 := by
      rcases h0 with h0 | h0
      · omega
      · exact h0 c (t ++ [b]) rfl
    have hc' := (isD_iff c).1 (h c (by simp))
    have hv : 1 ≤ val (c :: t) 0 := by
      have := val_ge t (0 * 10 + (c.toNat - 48))
      show 1 ≤ val t _
      omega
    rw [e, dig_ge _ (by omega), show (val (c :: t) 0 * 10 + (b.toNat - 48)) / 10 = val (c :: t) 0 by omega, show (val (c :: t) 0 * 10 + (b.toNat - 48)) % 10 = b.toNat - 48 by omega, ih (c :: t) ha (fun d hd => h d (by rw [List.mem_append]; exact .inl hd)) (.inr (fun b' t' he => by injection he with he _; subst he; exact hc)), dg_of b hb]
theorem dig_nil (l : List UInt8) (h : dig (val l 0) = l) : l ≠ [] := by
  intro h0
  subst h0
  have := (dig_len 1 0 (by omega)).1
  have h1 : dig 0 = [] := h
  rw [h1] at this
  simp at this
theorem dig_head (b : UInt8) (t : List UInt8) (ha : ∀ c ∈ b :: t, isD c = true) (h : dig (val (b :: t) 0) = b :: t) (ht : t ≠ []) : b.toNat ≠ 48 := by
  intro hb
  have e : val (b :: t) 0 = val t 0 := by show val t (0 * 10 + (b.toNat - 48)) = _; rw [hb]
  have hv := val_lt t (fun c hc => ha c (by simp [hc]))
  have hd := (dig_len t.length (val t 0) hv).2
  rw [← e, h, List.length_cons] at hd
  have : t.length ≠ 0 := fun h0 => ht (List.length_eq_zero_iff.1 h0)
  omega
theorem dig_short (l : List UInt8) (h : dig (val l 0) = l) (hv : val l 0 ≤ 100000000000) : l.length ≤ 12 := by
  have := (dig_len 12 (val l 0) (by omega)).2
  rw [h] at this
  omega
theorem digits_split : ∀ l : List UInt8, ∃ ds r, l = ds ++ r ∧ (∀ b ∈ ds, isD b = true) ∧ (r = [] ∨ ∃ c t, r = c :: t ∧ isD c ≠ true) := by
  intro l
  induction l with
  | nil => exact ⟨[], [], rfl, by simp, .inl rfl⟩
  | cons b l ih =>
    by_cases hb : isD b = true
    · obtain ⟨ds, r, rfl, h1, h2⟩ := ih
      refine ⟨b :: ds, r, rfl, ?_, h2⟩
      intro c hc
      rcases List.mem_cons.1 hc with rfl | hc
      · exact hb
      · exact h1 c hc
    · exact ⟨[], b :: l, rfl, by simp, .inr ⟨b, l, rfl, hb⟩⟩
theorem bt_drop (S : List UInt8) (i : Nat) (b : UInt8) (l : List UInt8) (h : S.drop i = b :: l) : i < S.length ∧ bt (bs S) (i : Int) = (b.toNat : Int) ∧ S.drop (i + 1) = l := by
  have hi : i < S.length := by
    have := congrArg List.length h
    rw [List.length_drop, List.length_cons] at this
    omega
  rw [List.drop_eq_getElem_cons hi] at h
  injection h with h1 h2
  exact ⟨hi, by rw [bt_bs S i hi, h1], h2⟩
/-- What a text of sign, digits and digits behind the point says. -/
def fin (neg : Bool) (ds gs : List UInt8) : Int × Bool :=
  if dig (val ds 0) = ds ∧ val gs (val ds 0) ≤ 100000000000 ∧ ¬ (val gs (val ds 0) = 0 ∧ neg = true) then ((if neg = true then -((val gs (val ds 0) : Nat) : Int) else ((val gs (val ds 0) : Nat) : Int)), true) else (0, false)

theorem digits_loop (S : List UInt8) (x1 : Nat) : ∀ (ds : List UInt8) (i v k : Nat) (r : List UInt8), S.drop i = ds ++ r → (∀ b ∈ ds, isD b = true) → (r = [] ∨ ∃ c t, r = c :: t ∧ isD c ≠ true) → x1 ≤ i → S.length ≤ 2000000 → (i < x1 + 17 → v < 10 ^ (i - x1)) →
    ∃ w : Nat, impl_digits.l0 (k + 2 + 2 * ds.length) (bs S) (x1 : Int) (v : Int) (i : Int) = some ((w : Int), ((i + ds.length : Nat) : Int)) ∧ (i + ds.length ≤ x1 + 16 → w = val ds v) := by
  intro ds
  induction ds with
  | nil =>
    intro i v k r hS _ hr hx hl _
    refine ⟨v, ?_, fun _ => rfl⟩
    rw [show k + 2 + 2 * ([] : List UInt8).length = k + 1 + 1 from rfl]
    rcases hr with rfl | ⟨c, t, rfl, hc⟩
    · have hi : S.length ≤ i := by simpa using hS
      simp only [impl_digits.l0, impl_digits.j1]
      have c0 : ¬ (i : Int) < ((bs S).size : Int) := by rw [bs_size]; omega
      rw [if_neg c0, if_neg (by simp)]
      simp
    · obtain ⟨hi, hb, _⟩ := bt_drop S i c t hS
      have hc : ¬ (48 ≤ c.toNat ∧ c.toNat ≤ 57) := fun h => hc ((isD_iff c).2 h)
      have c0 : (i : Int) < ((bs S).size : Int) := by rw [bs_size]; omega
      simp only [impl_digits.l0, impl_digits.j1]
      rw [if_pos c0, if_pos (by omega), hb]
      by_cases h : (c.toNat : Int) ≥ 48
      · rw [if_pos h, decide_eq_false (by omega), if_neg (by simp)]; simp
      · rw [if_neg h, if_neg (by simp)]; simp
  | cons b ds ih =>
    intro i v k r hS hd hr hx hl hv
    obtain ⟨hi, hb, hS'⟩ := bt_drop S i b (ds ++ r) hS
    have hb' := (isD_iff b).1 (hd b (by simp))
    have c0 : (i : Int) < ((bs S).size : Int) := by rw [bs_size]; omega
    have e1 : wrap64 ((i : Int) + 1) = ((i + 1 : Nat) : Int) := by rw [w64 (by omega) (by omega)]; omega
    have e2 : wrap64 ((i : Int) - (x1 : Int)) = ((i - x1 : Nat) : Int) := by rw [w64 (by omega) (by omega)]; omega
    have hf : k + 2 + 2 * (b :: ds).length = (k + 2 + 2 * ds.length) + 1 + 1 := by rw [List.length_cons]; omega
    have hd' : ∀ c ∈ ds, isD c = true := fun c hc => hd c (by simp [hc])
    rw [hf]
    simp only [impl_digits.l0, impl_digits.j1]
    rw [if_pos c0, if_pos (by omega), hb, if_pos (by omega), decide_eq_true (show (b.toNat : Int) ≤ 57 by omega), if_pos rfl, e2, e1]
    by_cases h16 : i < x1 + 16
    · have hv' := hv (by omega)
      have h15 : 10 ^ (i - x1) ≤ 10 ^ 15 := Nat.pow_le_pow_right (by omega) (by omega)
      have e3 : wrap64 (wrap64 ((v : Int) * 10) + ((b.toNat : Int) - 48) % 256) = ((v * 10 + (b.toNat - 48) : Nat) : Int) := by
        rw [w64 (x := (v : Int) * 10) (by omega) (by omega), w64 (by omega) (by omega)]; omega
      rw [if_pos (by omega), if_pos (by omega), if_pos c0, e3]
      have hp : 10 ^ (i + 1 - x1) = 10 ^ (i - x1) * 10 := by rw [show i + 1 - x1 = (i - x1) + 1 by omega, Nat.pow_succ]
      obtain ⟨w, h1, h2⟩ := ih (i + 1) (v * 10 + (b.toNat - 48)) k r hS' hd' hr (by omega) hl (fun _ => by rw [hp]; omega)
      refine ⟨w, ?_, fun h => h2 (by rw [List.length_cons] at h; omega)⟩
      rw [h1, List.length_cons, show i + 1 + ds.length = i + (ds.length + 1) by omega]
    · rw [if_neg (by omega)]
      obtain ⟨w, h1, h2⟩ := ih (i + 1) v k r hS' hd' hr (by omega) hl (fun h => by
        have := hv (by omega)
        rw [show i + 1 - x1 = (i - x1) + 1 by omega, Nat.pow_succ]; omega)
      refine ⟨w, ?_, fun h => ?_⟩
      · rw [h1, List.length_cons, show i + 1 + ds.length = i + (ds.length + 1) by omega]
      · rw [List.length_cons] at h; omega
theorem digits_eq (S : List UInt8) (ds r : List UInt8) (i k : Nat) (hS : S.drop i = ds ++ r) (hd : ∀ b ∈ ds, isD b = true) (hr : r = [] ∨ ∃ c t, r = c :: t ∧ isD c ≠ true) (hl : S.length ≤ 2000000) (hk : 2 * S.length + 2 ≤ k) :
    ∃ w : Nat, impl_digits.f k (bs S) (i : Int) = some ((w : Int), ((i + ds.length : Nat) : Int)) ∧ (ds.length ≤ 16 → w = val ds 0) := by
  have hz : ds.length ≤ S.length := by
    have := congrArg List.length hS
    rw [List.length_drop, List.length_append] at this
    omega
  obtain ⟨w, h1, h2⟩ := digits_loop S i ds i 0 (k - 2 - 2 * ds.length) r hS hd hr (by omega) hl (fun _ => by simp)
  refine ⟨w, ?_, fun h => h2 (by omega)⟩
  unfold impl_digits.f
  rw [← h1, show k - 2 - 2 * ds.length + 2 + 2 * ds.length = k by omega]
  rfl
theorem read_up : ∀ (d : Nat) (p sg x12 : Int) (n m x14 k : Nat), x14 + d = m → n * 10 ^ d ≤ 1000000000000000000 → m ≤ 100 →
    impl_ReadMoney.l0 (k + d + 1) p sg (n : Int) (m : Int) x12 (x14 : Int) = impl_ReadMoney.j6 k p sg (wrap64 (((n * 10 ^ d : Nat) : Int) + x12)) (m : Int) := by
  intro d
  induction d with
  | zero =>
    intro p sg x12 n m x14 k h1 h2 h3
    simp only [impl_ReadMoney.l0]
    rw [if_neg (by omega), Nat.pow_zero, Nat.mul_one]
  | succ d ih =>
    intro p sg x12 n m x14 k h1 h2 h3
    have e0 : n * 10 * 10 ^ d = n * 10 ^ (d + 1) := by rw [Nat.pow_succ, Nat.mul_assoc, Nat.mul_comm 10]
    have h4 : n * 10 ≤ n * 10 * 10 ^ d := Nat.le_mul_of_pos_right _ (Nat.pow_pos (by omega))
    have e1 : wrap64 ((x14 : Int) + 1) = ((x14 + 1 : Nat) : Int) := by rw [w64 (by omega) (by omega)]; omega
    have e2 : wrap64 ((n : Int) * 10) = ((n * 10 : Nat) : Int) := by rw [w64 (by omega) (by omega)]; omega
    rw [show k + (d + 1) + 1 = (k + d + 1) + 1 by omega]
    simp only [impl_ReadMoney.l0]
    rw [if_pos (by omega), e1, e2, ← e0]
    exact ih p sg x12 (n * 10) m (x14 + 1) k (by omega) (by omega) h3
/-- What the program says of a number found. -/
def said (neg : Bool) (n : Nat) : Int × Bool := if n ≤ 100000000000 ∧ ¬ (n = 0 ∧ neg = true) then ((if neg = true then -(n : Int) else (n : Int)), true) else (0, false)
def sgn (neg : Bool) : Int := if neg = true then -1 else 1
theorem read_end : ∀ (d : Nat) (neg : Bool) (n p x10 k : Nat), x10 + d = p → n * 10 ^ d ≤ 1000000000000000000 → p ≤ 100 →
    impl_ReadMoney.l1 (k + d + 1) (p : Int) (sgn neg) (n : Int) (x10 : Int) = some (said neg (n * 10 ^ d)) := by
  intro d
  induction d with
  | zero =>
    intro neg n p x10 k h1 h2 h3
    rw [Nat.pow_zero, Nat.mul_one] at h2
    simp only [impl_ReadMoney.l1]
    unfold said
    rw [if_neg (by omega), Nat.pow_zero, Nat.mul_one]
    by_cases hn : (n : Int) > 100000000000
    · rw [if_pos hn, if_neg (by omega)]
    · rw [if_neg hn]
      cases neg
      · have e : wrap64 (sgn false * (n : Int)) = (n : Int) := by unfold sgn; rw [if_neg (by simp), Int.one_mul, w64 (by omega) (by omega)]
        rw [e, if_pos (show n ≤ 100000000000 ∧ ¬ (n = 0 ∧ false = true) from ⟨by omega, fun h => by cases h.2⟩), if_neg (show ¬ (false = true) by simp)]
        have hs : ¬ sgn false < 0 := by decide
        rw [if_neg hs]
        split <;> rfl
      · have e : wrap64 (sgn true * (n : Int)) = -(n : Int) := by unfold sgn; rw [if_pos rfl, w64 (by omega) (by omega)]; omega
        have hs : sgn true < 0 := by decide
        rw [e, if_pos hs, if_pos (show true = true from rfl)]
        by_cases h0 : n = 0
        · rw [if_pos (by omega), if_neg (fun h => h.2 ⟨h0, rfl⟩)]
        · rw [if_neg (by omega), if_pos ⟨by omega, fun h => h0 h.1⟩]
  | succ d ih =>
    intro neg n p x10 k h1 h2 h3
    have e0 : n * 10 * 10 ^ d = n * 10 ^ (d + 1) := by rw [Nat.pow_succ, Nat.mul_assoc, Nat.mul_comm 10]
    have h4 : n * 10 ≤ n * 10 * 10 ^ d := Nat.le_mul_of_pos_right _ (Nat.pow_pos (by omega))
    have e1 : wrap64 ((x10 : Int) + 1) = ((x10 + 1 : Nat) : Int) := by rw [w64 (by omega) (by omega)]; omega
    have e2 : wrap64 ((n : Int) * 10) = ((n * 10 : Nat) : Int) := by rw [w64 (by omega) (by omega)]; omega
    rw [show k + (d + 1) + 1 = (k + d + 1) + 1 by omega]
    simp only [impl_ReadMoney.l1]
    rw [if_pos (by omega), e1, e2, ← e0]
    exact ih neg (n * 10) p (x10 + 1) k (by omega) (by omega) h3
theorem fin_bad (neg : Bool) (ds gs : List UInt8) (h : ¬ (dig (val ds 0) = ds ∧ ds.length ≤ 12)) : fin neg ds gs = (0, false) := by
  unfold fin
  rw [if_neg]
  rintro ⟨h1, h2, _⟩
  have := val_ge gs (val ds 0)
  exact h ⟨h1, dig_short ds h1 (by omega)⟩
theorem fin_said (neg : Bool) (ds gs : List UInt8) (h : dig (val ds 0) = ds) : fin neg ds gs = said neg (val gs (val ds 0)) := by
  unfold fin said
  by_cases hc : val gs (val ds 0) ≤ 100000000000 ∧ ¬ (val gs (val ds 0) = 0 ∧ neg = true)
  · rw [if_pos ⟨h, hc⟩, if_pos hc]
  · rw [if_neg (fun hh => hc hh.2), if_neg hc]
theorem j2_no (k : Nat) (s : ByteArray) (p g v e : Int) : impl_ReadMoney.j2 (k + 1) s p g v e true = some (0, false) := by simp only [impl_ReadMoney.j2]; rfl
theorem j3_no (k : Nat) (s : ByteArray) (p g v e : Int) : impl_ReadMoney.j3 (k + 1) s p g v e true = some (0, false) := by simp only [impl_ReadMoney.j3]; rfl
theorem j4_no (k : Nat) (p g v e x : Int) : impl_ReadMoney.j4 (k + 1) p g v e x true = some (0, false) := by simp only [impl_ReadMoney.j4]; rfl
theorem read_j1 (S ds r : List UInt8) (p : Int) (neg : Bool) (st k : Nat) (hS : S.drop st = ds ++ r) (hst : st ≤ S.length) (hd : ∀ b ∈ ds, isD b = true) (hr : r = [] ∨ ∃ c t, r = c :: t ∧ isD c ≠ true) (hl : S.length ≤ 2000000) (hk : 2 * S.length + 2 ≤ k) :
    impl_ReadMoney.j1 (k + 1) (bs S) p (sgn neg) (st : Int) = if dig (val ds 0) = ds ∧ ds.length ≤ 12 then impl_ReadMoney.j2 k (bs S) p (sgn neg) ((val ds 0 : Nat) : Int) ((st + ds.length : Nat) : Int) false else some (0, false) := by
  obtain ⟨k, rfl⟩ : ∃ q, k = q + 1 := ⟨k - 1, by omega⟩
  have hz : st + ds.length ≤ S.length := by
    have := congrArg List.length hS
    rw [List.length_drop, List.length_append] at this
    omega
  obtain ⟨w, h1, h2⟩ := digits_eq S ds r st (k + 1) hS hd hr hl hk
  simp only [impl_ReadMoney.j1]
  rw [h1, Option.bind_some]
  have e1 : wrap64 (((st + ds.length : Nat) : Int) - (st : Int)) = (ds.length : Int) := by rw [w64 (by omega) (by omega)]; omega
  dsimp only
  rw [e1]
  by_cases h0 : ds = []
  · subst h0
    rw [if_pos (by simp), j2_no, if_neg (fun h => dig_nil [] h.1 rfl)]
  · have hlen : ds.length ≠ 0 := fun h => h0 (List.length_eq_zero_iff.1 h)
    rw [if_neg (by omega)]
    by_cases h12 : ds.length ≤ 12
    · rw [if_neg (by omega), h2 (by omega)]
      obtain ⟨b, t, rfl⟩ : ∃ b t, ds = b :: t := by cases ds with
        | nil => exact absurd rfl h0
        | cons b t => exact ⟨b, t, rfl⟩
      obtain ⟨hi, hb, _⟩ := bt_drop S st b (t ++ r) hS
      by_cases h2' : ((b :: t).length : Int) > 1
      · have c0 : (st : Int) < ((bs S).size : Int) := by rw [bs_size]; omega
        have ht : t ≠ [] := by intro h; subst h; simp at h2'
        rw [if_pos h2', if_pos (by omega), if_pos c0, hb]
        by_cases h48 : b.toNat = 48
        · rw [show ((b.toNat : Int) == 48) = true by rw [h48]; rfl, j2_no, if_neg]
          exact fun h => dig_head b t hd h.1 ht h48
        · rw [show ((b.toNat : Int) == 48) = false by rw [beq_eq_false_iff_ne]; omega, if_pos]
          refine ⟨dig_val t.length (b :: t) rfl hd (.inr ?_), h12⟩
          intro b' t' he
          injection he with he _
          subst he; exact h48
      · rw [if_neg h2', if_pos]
        refine ⟨dig_val t.length (b :: t) rfl hd (.inl ?_), h12⟩
        rw [List.length_cons] at h2'; omega
    · rw [if_pos (by omega), j2_no, if_neg (fun h => h12 h.2)]
theorem read_whole (S : List UInt8) (p e v k : Nat) (neg : Bool) (he : e = S.length) (hv : v * 10 ^ p ≤ 1000000000000000000) (hp : p ≤ 6) : impl_ReadMoney.j2 (k + p + 3) (bs S) (p : Int) (sgn neg) (v : Int) (e : Int) false = some (said neg (v * 10 ^ p)) := by
  have h := read_end p neg v p 0 k (by omega) hv (by omega)
  simp only [impl_ReadMoney.j2]
  have c0 : ¬ (e : Int) < ((bs S).size : Int) := by rw [bs_size]; omega
  rw [if_neg (by simp), if_neg c0]
  simp only [impl_ReadMoney.j6]
  exact h
theorem read_other (S : List UInt8) (p e v k : Nat) (neg : Bool) (c : UInt8) (t : List UInt8) (hS : S.drop e = c :: t) (hc : c.toNat ≠ 46) : impl_ReadMoney.j2 (k + 2) (bs S) (p : Int) (sgn neg) (v : Int) (e : Int) false = some (0, false) := by
  obtain ⟨hi, hb, _⟩ := bt_drop S e c t hS
  have c0 : (e : Int) < ((bs S).size : Int) := by rw [bs_size]; omega
  simp only [impl_ReadMoney.j2]
  rw [if_neg (by simp), if_pos c0, if_pos (by omega), hb, if_neg (by omega), j3_no]
theorem read_j3 (s : ByteArray) (p e v m w k : Nat) (neg : Bool) (hs : s.size ≤ 2000000) (hm : e + 1 + m ≤ s.size) (h1 : impl_digits.f (k + 1) s ((e + 1 : Nat) : Int) = some ((w : Int), ((e + 1 + m : Nat) : Int))) :
    impl_ReadMoney.j3 (k + 2) s (p : Int) (sgn neg) (v : Int) (e : Int) false = if 1 ≤ m ∧ m ≤ p ∧ e + 1 + m = s.size then impl_ReadMoney.l0 k (p : Int) (sgn neg) (v : Int) (m : Int) (w : Int) 0 else some (0, false) := by
  have e0 : wrap64 ((e : Int) + 1) = ((e + 1 : Nat) : Int) := by rw [w64 (by omega) (by omega)]; omega
  have e1 : wrap64 (((e + 1 + m : Nat) : Int) - ((e + 1 : Nat) : Int)) = (m : Int) := by rw [w64 (by omega) (by omega)]; omega
  rw [impl_ReadMoney.j3, if_neg (by simp), e0, h1, Option.bind_some]
  clear h1
  dsimp only
  rw [e1]
  clear e1 e0
  by_cases hf1 : 1 ≤ m
  · rw [if_neg (by omega)]
    by_cases hfp : m ≤ p
    · rw [if_neg (by omega)]
      by_cases hr : e + 1 + m = s.size
      · rw [show (((e + 1 + m : Nat) : Int) != (s.size : Int)) = false by rw [hr]; simp, if_pos ⟨hf1, hfp, hr⟩, impl_ReadMoney.j4, if_neg (by simp)]
      · rw [show (((e + 1 + m : Nat) : Int) != (s.size : Int)) = true by rw [bne_iff_ne]; omega, j4_no, if_neg (fun h => hr h.2.2)]
    · rw [if_pos (by omega), j4_no, if_neg (by omega)]
  · rw [if_pos (by omega), j4_no, if_neg (by omega)]
theorem read_l0 (p v m w k : Nat) (neg : Bool) (hp : p ≤ 6) (hm : m ≤ p) (hv : v < 1000000000000) (hw : w < 10 ^ m) (hk : 30 ≤ k) : impl_ReadMoney.l0 k (p : Int) (sgn neg) (v : Int) (m : Int) (w : Int) 0 = some (said neg ((v * 10 ^ m + w) * 10 ^ (p - m))) := by
  have b0 : 10 ^ m * 10 ^ (p - m) = 10 ^ p := by rw [← Nat.pow_add]; congr 1; omega
  have b1 := Nat.mul_le_mul_right (10 ^ m) (show v + 1 ≤ 1000000000000 by omega)
  rw [Nat.add_mul, Nat.one_mul] at b1
  have b4 : 10 ^ p ≤ 1000000 := (show 10 ^ p ≤ 10 ^ 6 from Nat.pow_le_pow_right (by omega) hp)
  have b6 : 10 ^ m ≤ 1000000 := (show 10 ^ m ≤ 10 ^ 6 from Nat.pow_le_pow_right (by omega) (by omega))
  have b3 : (v * 10 ^ m + w) * 10 ^ (p - m) ≤ 1000000000000 * 10 ^ p := by
    rw [← b0, ← Nat.mul_assoc]; exact Nat.mul_le_mul_right _ (by omega)
  have b9 : (v * 10 ^ m + w) * 10 ^ (p - m) ≤ 1000000000000000000 := by omega
  have b8 : v * 10 ^ m ≤ 1000000000000000000 := by omega
  have hup := read_up m (p : Int) (sgn neg) (w : Int) v m 0 (k - m - 1) (by omega) b8 (by omega)
  rw [show ((0 : Nat) : Int) = 0 from rfl, show k - m - 1 + m + 1 = k by omega] at hup
  rw [hup]
  have e5 : wrap64 (((v * 10 ^ m : Nat) : Int) + (w : Int)) = ((v * 10 ^ m + w : Nat) : Int) := by
    rw [w64 (by omega) (by omega)]; omega
  rw [e5]
  have hend := read_end (p - m) neg (v * 10 ^ m + w) p m (k - m - 1 - 1 - (p - m) - 1) (by omega) b9 (by omega)
  rw [show k - m - 1 - 1 - (p - m) - 1 + (p - m) + 1 = k - m - 1 - 1 by omega] at hend
  rw [show k - m - 1 = (k - m - 1 - 1) + 1 by omega, impl_ReadMoney.j6]
  exact hend
theorem read_point (S fs r : List UInt8) (p e v k : Nat) (neg : Bool) (c : UInt8) (hS : S.drop e = c :: (fs ++ r)) (hc : c.toNat = 46) (hd : ∀ b ∈ fs, isD b = true) (hr : r = [] ∨ ∃ c t, r = c :: t ∧ isD c ≠ true) (hl : S.length ≤ 2000000) (hk : 2 * S.length + 40 ≤ k) (hv : v < 1000000000000) (hp : p ≤ 6) :
    impl_ReadMoney.j2 (k + 3) (bs S) (p : Int) (sgn neg) (v : Int) (e : Int) false = if 1 ≤ fs.length ∧ fs.length ≤ p ∧ r = [] then some (said neg (val (fs ++ List.replicate (p - fs.length) 48) v)) else some (0, false) := by
  obtain ⟨hi, hb, hS'⟩ := bt_drop S e c _ hS
  have c0 : (e : Int) < ((bs S).size : Int) := by rw [bs_size]; omega
  have hz : e + 1 + fs.length + r.length = S.length := by
    have := congrArg List.length hS'
    rw [List.length_drop, List.length_append] at this
    omega
  rw [impl_ReadMoney.j2, if_neg (by simp), if_pos c0, if_pos (Int.natCast_nonneg e), hb, if_pos (show (c.toNat : Int) = 46 by rw [hc]; rfl)]
  by_cases hp0 : p = 0
  · subst hp0
    rw [show (((0 : Nat) : Int) == 0) = true from rfl, j3_no, if_neg (by omega)]
  · obtain ⟨w, h1, h2⟩ := digits_eq S fs r (e + 1) (k + 1) hS' hd hr hl (by clear hS hS' hr hb hc; omega)
    rw [show ((p : Int) == 0) = false by rw [beq_eq_false_iff_ne]; omega, read_j3 (bs S) p e v fs.length w k neg (by rw [bs_size]; exact hl) (by rw [bs_size]; omega) h1]
    by_cases h : 1 ≤ fs.length ∧ fs.length ≤ p ∧ r = []
    · obtain ⟨q1, q2, q3⟩ := h
      have hw := val_lt fs hd
      have q4 : w = val fs 0 := h2 (by omega)
      rw [if_pos ⟨q1, q2, by rw [bs_size, ← hz, q3]; rfl⟩, if_pos ⟨q1, q2, q3⟩, q4, read_l0 p v fs.length (val fs 0) k neg hp q2 hv hw (by clear h1 h2 hS hS' hr hb hc; omega), ← val_shift fs v, val_app, val_zeros]
    · rw [if_neg h, if_neg]
      rintro ⟨q1, q2, q3⟩
      refine h ⟨q1, q2, ?_⟩
      rw [bs_size] at q3
      exact List.length_eq_zero_iff.1 (by omega)
/-- What a text says behind its sign. -/
inductive Told (p : Nat) (neg : Bool) : List UInt8 → Int × Bool → Prop
  | whole (ds : List UInt8) (hd : ∀ b ∈ ds, isD b = true) : Told p neg ds (fin neg ds (List.replicate p 48))
  | point (ds : List UInt8) (c : UInt8) (fs : List UInt8) (hd : ∀ b ∈ ds, isD b = true) (hc : c.toNat = 46) (hf : ∀ b ∈ fs, isD b = true) (h1 : 1 ≤ fs.length) (h2 : fs.length ≤ p) : Told p neg (ds ++ c :: fs) (fin neg ds (fs ++ List.replicate (p - fs.length) 48))
  | badF (ds : List UInt8) (c : UInt8) (fs r : List UInt8) (hd : ∀ b ∈ ds, isD b = true) (hc : c.toNat = 46) (hf : ∀ b ∈ fs, isD b = true) (hr : r = [] ∨ ∃ c t, r = c :: t ∧ isD c ≠ true) (h : ¬ (1 ≤ fs.length ∧ fs.length ≤ p ∧ r = [])) : Told p neg (ds ++ c :: (fs ++ r)) (0, false)
  | badD (ds : List UInt8) (c : UInt8) (t : List UInt8) (hd : ∀ b ∈ ds, isD b = true) (hc : c.toNat ≠ 46) (hn : isD c ≠ true) : Told p neg (ds ++ c :: t) (0, false)
theorem told_all (p : Nat) (neg : Bool) (l : List UInt8) : ∃ r, Told p neg l r := by
  obtain ⟨ds, r, rfl, hd, hr⟩ := digits_split l
  rcases hr with rfl | ⟨c, t, rfl, hc⟩
  · rw [List.append_nil]; exact ⟨_, .whole ds hd⟩
  · by_cases h46 : c.toNat = 46
    · obtain ⟨fs, r, rfl, hf, hr⟩ := digits_split t
      by_cases h : 1 ≤ fs.length ∧ fs.length ≤ p ∧ r = []
      · obtain ⟨h1, h2, rfl⟩ := h
        rw [List.append_nil]; exact ⟨_, .point ds c fs hd h46 hf h1 h2⟩
      · exact ⟨_, .badF ds c fs r hd h46 hf hr h⟩
    · exact ⟨_, .badD ds c t hd h46 hc⟩
theorem bound_val (ds : List UInt8) (hd : ∀ b ∈ ds, isD b = true) (h : ds.length ≤ 12) : val ds 0 < 1000000000000 := by
  have h1 := val_lt ds hd
  have h2 : 10 ^ ds.length ≤ 1000000000000 := (show 10 ^ ds.length ≤ 10 ^ 12 from Nat.pow_le_pow_right (by omega) h)
  omega
theorem told_impl (p : Nat) (hp : p ≤ 6) (neg : Bool) (S l : List UInt8) (st : Nat) (hS : S.drop st = l) (hst : st ≤ S.length) (R : Int × Bool) (hR : Told p neg l R) (hl : S.length ≤ 2000000) (k : Nat) (hk : 2 * S.length + 50 ≤ k) :
    impl_ReadMoney.j1 (k + 1) (bs S) (p : Int) (sgn neg) (st : Int) = some R := by
  have b4 : 10 ^ p ≤ 1000000 := (show 10 ^ p ≤ 10 ^ 6 from Nat.pow_le_pow_right (by omega) hp)
  cases hR with
  | whole _ hd =>
    have hz : st + l.length = S.length := by
      have := congrArg List.length hS
      rw [List.length_drop] at this
      omega
    rw [read_j1 S l [] p neg st k (by rw [hS, List.append_nil]) hst hd (.inl rfl) hl (by omega)]
    by_cases h : dig (val l 0) = l ∧ l.length ≤ 12
    · have hb := bound_val l hd h.2
      have b3 : val l 0 * 10 ^ p ≤ 1000000000000 * 10 ^ p := Nat.mul_le_mul_right _ (by omega)
      have b5 : 1000000000000 * 10 ^ p ≤ 1000000000000000000 := (show 1000000000000 * 10 ^ p ≤ 1000000000000 * 1000000 from Nat.mul_le_mul_left _ b4)
      rw [if_pos h, fin_said _ _ _ h.1, val_zeros, show k = (k - p - 3) + p + 3 by omega]
      exact read_whole S p _ _ _ neg hz (by omega) hp
    · rw [if_neg h, fin_bad _ _ _ h]
  | point ds c fs hd hc hf h1 h2 =>
    have hS2 : S.drop (st + ds.length) = c :: (fs ++ []) := by rw [← List.drop_drop, hS, List.drop_left, List.append_nil]
    have hn : isD c ≠ true := by rw [Ne, isD_iff]; omega
    rw [read_j1 S ds (c :: fs) p neg st k hS hst hd (.inr ⟨c, fs, rfl, hn⟩) hl (by omega)]
    by_cases h : dig (val ds 0) = ds ∧ ds.length ≤ 12
    · have hb := bound_val ds hd h.2
      obtain ⟨k, rfl⟩ : ∃ q, k = q + 3 := ⟨k - 3, by omega⟩
      rw [if_pos h, fin_said _ _ _ h.1, read_point S fs [] p (st + ds.length) (val ds 0) k neg c hS2 hc hf (.inl rfl) hl (by omega) hb hp, if_pos ⟨h1, h2, rfl⟩]
    · rw [if_neg h, fin_bad _ _ _ h]
  | badF ds c fs r hd hc hf hr hno =>
    have hS2 : S.drop (st + ds.length) = c :: (fs ++ r) := by rw [← List.drop_drop, hS, List.drop_left]
    have hn : isD c ≠ true := by rw [Ne, isD_iff]; omega
    rw [read_j1 S ds (c :: (fs ++ r)) p neg st k hS hst hd (.inr ⟨c, _, rfl, hn⟩) hl (by omega)]
    by_cases h : dig (val ds 0) = ds ∧ ds.length ≤ 12
    · have hb := bound_val ds hd h.2
      obtain ⟨k, rfl⟩ : ∃ q, k = q + 3 := ⟨k - 3, by omega⟩
      rw [if_pos h, read_point S fs r p (st + ds.length) (val ds 0) k neg c hS2 hc hf hr hl (by omega) hb hp, if_neg hno]
    · rw [if_neg h]
  | badD ds c t hd hc hn =>
    have hS2 : S.drop (st + ds.length) = c :: t := by rw [← List.drop_drop, hS, List.drop_left]
    rw [read_j1 S ds (c :: t) p neg st k hS hst hd (.inr ⟨c, _, rfl, hn⟩) hl (by omega)]
    by_cases h : dig (val ds 0) = ds ∧ ds.length ≤ 12
    · obtain ⟨k, rfl⟩ : ∃ q, k = q + 2 := ⟨k - 2, by omega⟩
      rw [if_pos h, read_other S p (st + ds.length) (val ds 0) k neg c t hS2 hc]
    · rw [if_neg h]
def negOf (S : List UInt8) : Bool := match S with
  | [] => false
  | b :: _ => b.toNat == 45
def bodyOf (S : List UInt8) : List UInt8 := if negOf S = true then S.drop 1 else S
theorem read_impl (p : Nat) (hp : p ≤ 6) (S : List UInt8) (R : Int × Bool) (hR : Told p (negOf S) (bodyOf S) R) (hl : S.length ≤ 2000000) (k : Nat) (hk : 2 * S.length + 60 ≤ k) : impl_ReadMoney.f k (bs S) (p : Int) = some R := by
  obtain ⟨k, rfl⟩ : ∃ q, k = q + 2 := ⟨k - 2, by omega⟩
  unfold impl_ReadMoney.f
  rw [between_eq, Option.bind_some, if_pos (decide_eq_true (by omega))]
  have tail : impl_ReadMoney.j0 (k + 2) (bs S) (p : Int) 1 0 (negOf S) = some R := by
    unfold bodyOf at hR
    cases hn : negOf S
    · rw [hn, if_neg (by simp)] at hR
      have h := told_impl p hp false S S 0 rfl (by omega) R hR hl k (by omega)
      simp only [impl_ReadMoney.j0]
      exact h
    · rw [hn, if_pos rfl] at hR
      have hst : 1 ≤ S.length := by
        cases S with
        | nil => simp [negOf] at hn
        | cons b t => simp
      have h := told_impl p hp true S _ 1 rfl hst R hR hl k (by omega)
      simp only [impl_ReadMoney.j0]
      exact h
  cases S with
  | nil =>
    have c0 : ¬ ((bs []).size : Int) > 0 := by decide
    rw [if_neg c0]
    exact tail
  | cons b t =>
    have c0 : ((bs (b :: t)).size : Int) > 0 := by rw [bs_size, List.length_cons]; omega
    obtain ⟨_, hb, _⟩ := bt_drop (b :: t) 0 b t rfl
    rw [if_pos c0, if_pos c0, show (0 : Int) = ((0 : Nat) : Int) from rfl, hb]
    have e : ((b.toNat : Int) == 45) = (b.toNat == 45) := by
      rw [Bool.eq_iff_iff, beq_iff_eq, beq_iff_eq]; omega
    rw [e]
    exact tail

theorem rs_digits (S : List UInt8) (p : Int) (hl : S.length ≤ 2000000) : ∀ (ds : List UInt8) (i n k : Nat) (pl : Int) (r : List UInt8), S.drop i = ds ++ r → (∀ b ∈ ds, isD b = true) → n ≤ 100000000000 → -1 ≤ pl → pl + ds.length ≤ 3000000 →
    spec_ReadMoney.l0 (k + 2 * ds.length) (bs S) p (n : Int) pl (i : Int) = if val ds n ≤ 100000000000 then spec_ReadMoney.l0 k (bs S) p ((val ds n : Nat) : Int) (if pl ≥ 0 then pl + ds.length else pl) ((i + ds.length : Nat) : Int) else some (0, false) := by
  intro ds
  induction ds with
  | nil =>
    intro i n k pl r _ _ hn _ _
    rw [show val [] n = n from rfl, if_pos hn]
    simp
  | cons b ds ih =>
    intro i n k pl r hS hd hn h1 h2
    obtain ⟨hi, hb, hS'⟩ := bt_drop S i b (ds ++ r) hS
    have hb' := (isD_iff b).1 (hd b (by simp))
    have c0 : (i : Int) < ((bs S).size : Int) := by rw [bs_size]; omega
    have e1 : wrap64 ((i : Int) + 1) = ((i + 1 : Nat) : Int) := by rw [w64 (by omega) (by omega)]; omega
    have e3 : wrap64 (wrap64 ((n : Int) * 10) + ((b.toNat : Int) - 48) % 256) = ((n * 10 + (b.toNat - 48) : Nat) : Int) := by
      rw [w64 (x := (n : Int) * 10) (by omega) (by omega), w64 (by omega) (by omega)]; omega
    have hd' : ∀ c ∈ ds, isD c = true := fun c hc => hd c (by simp [hc])
    have hL : ((b :: ds).length : Int) = (ds.length : Int) + 1 := by rw [List.length_cons]; omega
    have hL2 : i + (b :: ds).length = i + 1 + ds.length := by rw [List.length_cons]; omega
    have hv : val (b :: ds) n = val ds (n * 10 + (b.toNat - 48)) := rfl
    rw [hL] at h2
    rw [show k + 2 * (b :: ds).length = (k + 2 * ds.length) + 1 + 1 by rw [List.length_cons]; omega, hL2, hL, hv]
    simp only [spec_ReadMoney.l0, spec_ReadMoney.j2]
    rw [if_pos c0, if_pos (by omega), hb, if_pos (by omega), decide_eq_true (show (b.toNat : Int) ≤ 57 by omega), if_pos rfl, if_pos (by omega), if_pos c0, e3, e1]
    have hge := val_ge ds (n * 10 + (b.toNat - 48))
    by_cases hp : pl ≥ 0
    · have e4 : wrap64 (pl + 1) = pl + 1 := w64 (by omega) (by omega)
      rw [if_pos hp, if_pos hp, e4]
      by_cases hbig : n * 10 + (b.toNat - 48) ≤ 100000000000
      · rw [if_neg (by omega), ih (i + 1) _ k (pl + 1) r hS' hd' hbig (by omega) (by omega), if_pos (show pl + 1 ≥ 0 by omega), show pl + 1 + (ds.length : Int) = pl + ((ds.length : Int) + 1) by omega]
      · rw [if_pos (by omega), if_neg (by omega)]
    · rw [if_neg hp, if_neg hp]
      by_cases hbig : n * 10 + (b.toNat - 48) ≤ 100000000000
      · rw [if_neg (by omega), ih (i + 1) _ k pl r hS' hd' hbig (by omega) (by omega), if_neg hp]
      · rw [if_pos (by omega), if_neg (by omega)]
theorem rs_pad (x0 : ByteArray) (p : Nat) (hp : p ≤ 6) : ∀ (d n x k : Nat) (w : List UInt8), x + d = p → n * 10 ^ d ≤ 1000000000000000000 → w.length + d ≤ 3000000 →
    spec_ReadMoney.l1 (k + d) x0 (p : Int) (n : Int) (x : Int) (bs w) = spec_ReadMoney.l1 k x0 (p : Int) ((n * 10 ^ d : Nat) : Int) (p : Int) (bs (w ++ List.replicate d 48)) := by
  intro d
  induction d with
  | zero => intro n x k w h1 _ _; rw [Nat.pow_zero, Nat.mul_one, List.replicate_zero, List.append_nil, show x = p by omega, Nat.add_zero]
  | succ d ih =>
    intro n x k w h1 h2 h3
    have e0 : n * 10 * 10 ^ d = n * 10 ^ (d + 1) := by rw [Nat.pow_succ, Nat.mul_assoc, Nat.mul_comm 10]
    have h4 : n * 10 ≤ n * 10 * 10 ^ d := Nat.le_mul_of_pos_right _ (Nat.pow_pos (by omega))
    have e1 : wrap64 ((x : Int) + 1) = ((x + 1 : Nat) : Int) := by rw [w64 (by omega) (by omega)]; omega
    have e2 : wrap64 ((n : Int) * 10) = ((n * 10 : Nat) : Int) := by rw [w64 (by omega) (by omega)]; omega
    have c1 : (bs w).size + 1 ≤ 9223372036854775807 := by rw [bs_size]; omega
    have hw : (w ++ [(48 : UInt8)]).length + d ≤ 3000000 := by rw [List.length_append, List.length_singleton]; omega
    have step : spec_ReadMoney.l1 (k + (d + 1)) x0 (p : Int) (n : Int) (x : Int) (bs w) = spec_ReadMoney.l1 (k + d) x0 (p : Int) ((n * 10 : Nat) : Int) ((x + 1 : Nat) : Int) (bs (w ++ [48])) := by
      rw [show k + (d + 1) = (k + d) + 1 by omega, spec_ReadMoney.l1]
      rw [if_pos (by omega), if_pos c1, e1, e2, show (⟨#[48]⟩ : ByteArray) = bs [48] from rfl, bs_app]
    rw [step, ih (n * 10) (x + 1) k (w ++ [48]) (by omega) (by omega) hw, e0, List.append_assoc, List.singleton_append, ← List.replicate_succ]
theorem bs_toList (l : List UInt8) : (bs l).toList = l := ByteArray.toList_mk l
def signed (neg : Bool) (n : Nat) : Int := if neg = true then -(n : Int) else (n : Int)
theorem rs_j6 (p n k : Nat) (neg : Bool) (W : List UInt8) (hn : n ≤ 100000000000) (hk : 40 ≤ k) : spec_ReadMoney.j6 (k + 1) (p : Int) (n : Int) (bs W) neg = some (if (showM (signed neg n) (p : Int)).toList = W then (signed neg n, true) else (0, false)) := by
  rw [spec_ReadMoney.j6]
  cases neg
  · rw [if_neg (by simp), moneySpec _ _ ⟨by omega, by omega⟩ k hk, Option.bind_some, bs_toList]
    unfold signed
    rw [if_neg (show ¬ (false = true) by simp)]
    split <;> rfl
  · have e : wrap64 (-(n : Int)) = -(n : Int) := w64 (by omega) (by omega)
    rw [if_pos rfl, e, moneySpec _ _ ⟨by omega, by omega⟩ k hk, Option.bind_some, bs_toList]
    unfold signed
    rw [if_pos (show true = true from rfl)]
    split <;> rfl
theorem rs_end (S W : List UInt8) (p n k : Nat) (hk : 50 ≤ k) : spec_ReadMoney.l1 k (bs S) (p : Int) (n : Int) (p : Int) (bs W) = some (if n ≤ 100000000000 ∧ (showM (signed (negOf S) n) (p : Int)).toList = W then (signed (negOf S) n, true) else (0, false)) := by
  obtain ⟨k, rfl⟩ : ∃ q, k = q + 2 := ⟨k - 2, by omega⟩
  rw [spec_ReadMoney.l1, if_neg (by omega)]
  by_cases hn : (n : Int) > 100000000000
  · rw [if_pos hn, if_neg (by omega)]
  · have hn' : n ≤ 100000000000 := by omega
    have h6 := rs_j6 p n k (negOf S) W hn' (by omega)
    rw [if_neg hn]
    have e : (if n ≤ 100000000000 ∧ (showM (signed (negOf S) n) (p : Int)).toList = W then (signed (negOf S) n, true) else (0, false)) = (if (showM (signed (negOf S) n) (p : Int)).toList = W then (signed (negOf S) n, true) else (0, false)) := by
      by_cases hq : (showM (signed (negOf S) n) (p : Int)).toList = W
      · rw [if_pos ⟨hn', hq⟩, if_pos hq]
      · rw [if_neg (fun h => hq h.2), if_neg hq]
    rw [e, ← h6]
    cases S with
    | nil =>
      have c0 : ¬ ((bs []).size : Int) > 0 := by decide
      rw [if_neg c0]
      rfl
    | cons b t =>
      have c0 : ((bs (b :: t)).size : Int) > 0 := by rw [bs_size, List.length_cons]; omega
      obtain ⟨_, hb, _⟩ := bt_drop (b :: t) 0 b t rfl
      rw [if_pos c0, if_pos c0, show (0 : Int) = ((0 : Nat) : Int) from rfl, hb]
      have e : ((b.toNat : Int) == 45) = negOf (b :: t) := by
        show _ = (b.toNat == 45)
        rw [Bool.eq_iff_iff, beq_iff_eq, beq_iff_eq]; omega
      rw [e]
/-- The text that the reference holds against what it found. -/
def want (p : Nat) (neg : Bool) (ds gs : List UInt8) : List UInt8 := (if neg = true then [45] else []) ++ (ds ++ (if p = 0 then [] else 46 :: gs))
theorem showN_val (p : Nat) (ds gs : List UInt8) (hg : gs.length = p) (ha : ∀ b ∈ gs, isD b = true) : showN (val gs (val ds 0)) p = dig (val ds 0) ++ (if p = 0 then [] else 46 :: gs) := by
  unfold showN
  have h1 := val_lt gs ha
  rw [hg] at h1
  by_cases h0 : p = 0
  · rw [if_pos h0, if_pos h0, List.append_nil]
    have : gs = [] := List.length_eq_zero_iff.1 (by omega)
    subst this
    rfl
  · rw [if_neg h0, if_neg h0, val_shift gs, hg]
    have e1 : (val ds 0 * 10 ^ p + val gs 0) / 10 ^ p = val ds 0 := by
      rw [Nat.mul_comm, Nat.mul_add_div (Nat.pow_pos (by omega)), Nat.div_eq_of_lt h1, Nat.add_zero]
    have e2 : fx p (val ds 0 * 10 ^ p + val gs 0) = gs := by
      rw [← fx_mod, Nat.mul_comm, Nat.mul_add_mod, Nat.mod_eq_of_lt h1]
      exact fx_val p gs hg ha
    rw [e1, e2]
theorem dig_not45 (n : Nat) (t u : List UInt8) (h : dig n ++ t = 45 :: u) : False := by
  by_cases h10 : n < 10
  · rw [dig_lt n h10] at h
    injection h with h1 _
    rcases (by omega : n = 0 ∨ n = 1 ∨ n = 2 ∨ n = 3 ∨ n = 4 ∨ n = 5 ∨ n = 6 ∨ n = 7 ∨ n = 8 ∨ n = 9) with rfl | rfl | rfl | rfl | rfl | rfl | rfl | rfl | rfl | rfl <;> exact absurd h1 (by decide)
  · rw [dig_ge n h10, List.append_assoc] at h
    exact dig_not45 (n / 10) _ _ h
termination_by n
theorem showM_want (p : Nat) (hp : p ≤ 6) (neg : Bool) (ds gs : List UInt8) (hg : gs.length = p) (ha : ∀ b ∈ gs, isD b = true) (hds : ∀ b ∈ ds, isD b = true) :
    (if val gs (val ds 0) ≤ 100000000000 ∧ (showM (signed neg (val gs (val ds 0))) (p : Int)).toList = want p neg ds gs then (signed neg (val gs (val ds 0)), true) else ((0 : Int), false)) = fin neg ds gs := by
  have hs := showN_val p ds gs hg ha
  unfold fin
  by_cases hN : val gs (val ds 0) ≤ 100000000000
  · have hiff : (showM (signed neg (val gs (val ds 0))) (p : Int)).toList = want p neg ds gs ↔ dig (val ds 0) = ds ∧ ¬ (val gs (val ds 0) = 0 ∧ neg = true) := by
      unfold want showM signed
      generalize hv : val gs (val ds 0) = N at *
      cases neg
      · rw [if_neg (show ¬ (false = true) by simp), if_neg (show ¬ (false = true) by simp), if_pos ⟨⟨by omega, by omega⟩, ⟨by omega, by omega⟩⟩, if_neg (by omega), bs_toList, Int.toNat_natCast, Int.toNat_natCast, hs, List.nil_append]
        constructor
        · intro h; exact ⟨List.append_cancel_right h, fun h => by cases h.2⟩
        · intro h; rw [h.1]
      · rw [if_pos (show true = true from rfl), if_pos (show true = true from rfl), if_pos ⟨⟨by omega, by omega⟩, ⟨by omega, by omega⟩⟩]
        by_cases h0 : N = 0
        · rw [if_neg (by omega), bs_toList, Int.toNat_natCast, show (-(N : Int)).toNat = N by omega, hs]
          constructor
          · intro h; exact (dig_not45 _ _ _ h).elim
          · intro h; exact (h.2 ⟨h0, rfl⟩).elim
        · rw [if_pos (by omega), bs_toList, Int.toNat_natCast, show (-(-(N : Int))).toNat = N by omega, hs]
          constructor
          · intro h
            injection h with _ h
            exact ⟨List.append_cancel_right h, fun h => h0 h.1⟩
          · intro h; rw [h.1]; rfl
    by_cases hq : (showM (signed neg (val gs (val ds 0))) (p : Int)).toList = want p neg ds gs
    · have hq' := hiff.1 hq
      rw [if_pos ⟨hN, hq⟩, if_pos ⟨hq'.1, hN, hq'.2⟩]; rfl
    · rw [if_neg (fun h => hq h.2), if_neg (fun h => hq (hiff.2 ⟨h.1, h.2.2⟩))]
  · rw [if_neg (fun h => hN h.1), if_neg (fun h => hN h.2.1)]
theorem rs_stop (S t : List UInt8) (c : UInt8) (p n pl : Int) (e k : Nat) (hS : S.drop e = c :: t) (hl : S.length ≤ 2000000) (hn : isD c ≠ true) :
    spec_ReadMoney.l0 (k + 3) (bs S) p n pl (e : Int) = if c.toNat = 46 ∧ pl < 0 then spec_ReadMoney.l0 k (bs S) p n 0 ((e + 1 : Nat) : Int) else if c.toNat = 45 ∧ e = 0 then spec_ReadMoney.l0 k (bs S) p n pl ((e + 1 : Nat) : Int) else some (0, false) := by
  obtain ⟨hi, hb, _⟩ := bt_drop S e c t hS
  have hn' : ¬ (48 ≤ c.toNat ∧ c.toNat ≤ 57) := fun h => hn ((isD_iff c).2 h)
  have c0 : (e : Int) < ((bs S).size : Int) := by rw [bs_size]; omega
  have e1 : wrap64 ((e : Int) + 1) = ((e + 1 : Nat) : Int) := by rw [w64 (by omega) (by omega)]; omega
  have h2 : spec_ReadMoney.l0 (k + 3) (bs S) p n pl (e : Int) = spec_ReadMoney.j2 (k + 2) (bs S) p n pl (e : Int) false := by
    rw [spec_ReadMoney.l0, if_pos c0, if_pos (Int.natCast_nonneg e), hb]
    by_cases h : (c.toNat : Int) ≥ 48
    · rw [if_pos h, decide_eq_false (by omega)]
    · rw [if_neg h]
  have h3 : spec_ReadMoney.j2 (k + 2) (bs S) p n pl (e : Int) false = spec_ReadMoney.j3 (k + 1) (bs S) p n pl (e : Int) (decide (c.toNat = 46 ∧ pl < 0)) := by
    rw [spec_ReadMoney.j2, if_neg (by simp), if_pos (Int.natCast_nonneg e), if_pos c0, hb]
    by_cases h : c.toNat = 46
    · rw [if_pos (by omega)]
      congr 1
      rw [decide_eq_decide]
      exact ⟨fun h' => ⟨h, h'⟩, fun h' => h'.2⟩
    · rw [if_neg (by omega), decide_eq_false (fun h' => h h'.1)]
  rw [h2, h3, spec_ReadMoney.j3, e1]
  by_cases h : c.toNat = 46 ∧ pl < 0
  · rw [if_pos h, if_pos (decide_eq_true h)]
  · rw [if_neg h, if_neg (by rw [decide_eq_true_eq]; exact h), if_pos (Int.natCast_nonneg e), if_pos c0, hb]
    by_cases h4 : c.toNat = 45
    · rw [if_pos (by omega)]
      by_cases h5 : e = 0
      · rw [if_pos (by omega), if_pos ⟨h4, h5⟩]
      · rw [if_neg (by omega), if_neg (fun h => h5 h.2)]
    · rw [if_neg (by omega), if_neg (fun h => h4 h.1)]
theorem rs_over (S : List UInt8) (p n k e : Nat) (he : S.length = e) (hl : S.length ≤ 2000000) (hp : p ≤ 6) (hn : n ≤ 100000000000) (hk : 100 ≤ k) :
    spec_ReadMoney.l0 k (bs S) (p : Int) (n : Int) (-1) (e : Int) = some (if val (List.replicate p 48) n ≤ 100000000000 ∧ (showM (signed (negOf S) (val (List.replicate p 48) n)) (p : Int)).toList = S ++ (if p = 0 then [] else 46 :: List.replicate p 48) then (signed (negOf S) (val (List.replicate p 48) n), true) else (0, false)) := by
  obtain ⟨k, rfl⟩ : ∃ q, k = q + 2 := ⟨k - 2, by omega⟩
  have b4 : 10 ^ p ≤ 1000000 := (show 10 ^ p ≤ 10 ^ 6 from Nat.pow_le_pow_right (by omega) hp)
  have b5 : n * 10 ^ p ≤ 1000000000000000000 := Nat.le_trans (Nat.mul_le_mul hn b4) (by omega)
  have c0 : ¬ (e : Int) < ((bs S).size : Int) := by rw [bs_size]; omega
  have c1 : (bs S).size + 1 ≤ 9223372036854775807 := by rw [bs_size]; omega
  rw [spec_ReadMoney.l0, if_neg c0, if_pos (by omega), val_zeros]
  by_cases h0 : p = 0
  · subst h0
    rw [if_neg (by omega), spec_ReadMoney.j4, if_neg (by omega), if_pos rfl, List.append_nil, Nat.pow_zero, Nat.mul_one]
    exact rs_end S S 0 n k (by omega)
  · rw [if_pos (by omega), if_pos c1, spec_ReadMoney.j4, if_neg (by omega), if_neg h0, show (⟨#[46]⟩ : ByteArray) = bs [46] from rfl, bs_app]
    have h := rs_pad (bs S) p hp p n 0 (k - p) (S ++ [46]) (by omega) b5 (by rw [List.length_append, List.length_singleton]; omega)
    rw [show k - p + p = k by omega, show ((0 : Nat) : Int) = 0 from rfl] at h
    rw [h, rs_end S _ p _ (k - p) (by omega), List.append_assoc, List.singleton_append]
theorem rs_over2 (S : List UInt8) (p n k e m : Nat) (he : S.length = e) (hl : S.length ≤ 2000000) (hp : p ≤ 6) (hn : n ≤ 100000000000) (hk : 100 ≤ k) (hm : m ≤ 2000000) :
    spec_ReadMoney.l0 k (bs S) (p : Int) (n : Int) (m : Int) (e : Int) = if 1 ≤ m ∧ m ≤ p then some (if val (List.replicate (p - m) 48) n ≤ 100000000000 ∧ (showM (signed (negOf S) (val (List.replicate (p - m) 48) n)) (p : Int)).toList = S ++ List.replicate (p - m) 48 then (signed (negOf S) (val (List.replicate (p - m) 48) n), true) else (0, false)) else some (0, false) := by
  obtain ⟨k, rfl⟩ : ∃ q, k = q + 2 := ⟨k - 2, by omega⟩
  have c0 : ¬ (e : Int) < ((bs S).size : Int) := by rw [bs_size]; omega
  rw [spec_ReadMoney.l0, if_neg c0, if_neg (by omega)]
  by_cases h1 : m = 0
  · rw [if_pos (by omega), if_neg (by omega)]
  · rw [if_neg (by omega), spec_ReadMoney.j4]
    by_cases h2 : m ≤ p
    · have b4 : 10 ^ (p - m) ≤ 1000000 := (show 10 ^ (p - m) ≤ 10 ^ 6 from Nat.pow_le_pow_right (by omega) (by omega))
      have b5 : n * 10 ^ (p - m) ≤ 1000000000000000000 := Nat.le_trans (Nat.mul_le_mul hn b4) (by omega)
      have h := rs_pad (bs S) p hp (p - m) n m (k - (p - m)) S (by omega) b5 (by omega)
      rw [show k - (p - m) + (p - m) = k by omega] at h
      rw [if_neg (by omega), if_pos ⟨by omega, h2⟩, h, rs_end S _ p _ (k - (p - m)) (by omega), val_zeros]
    · rw [if_pos (by omega), if_neg (by omega)]
theorem sign_app (S : List UInt8) : S = (if negOf S = true then [45] else []) ++ bodyOf S := by
  unfold bodyOf
  cases S with
  | nil => rfl
  | cons b t =>
    by_cases h : negOf (b :: t) = true
    · rw [if_pos h, if_pos h]
      have hb : b.toNat = 45 := by
        have : (b.toNat == 45) = true := h
        rwa [beq_iff_eq] at this
      have : b = 45 := UInt8.toNat_inj.1 hb
      rw [this]; rfl
    · rw [if_neg h, if_neg h]; rfl
def stOf (S : List UInt8) : Nat := if negOf S = true then 1 else 0
theorem rs_start (S : List UInt8) (p : Int) (k : Nat) (hk : 10 ≤ k) (hl : S.length ≤ 2000000) (r : Option (Int × Bool)) (h : ∀ q, k ≤ q + 3 → q ≤ k → spec_ReadMoney.l0 q (bs S) p 0 (-1) (stOf S : Int) = r) : spec_ReadMoney.l0 k (bs S) p 0 (-1) 0 = r := by
  unfold stOf at h
  cases hn : negOf S
  · rw [hn, if_neg (by simp)] at h
    exact h k (by omega) (by omega)
  · rw [hn, if_pos rfl] at h
    cases S with
    | nil => simp [negOf] at hn
    | cons b t =>
      have hb : b.toNat = 45 := by
        have : (b.toNat == 45) = true := hn
        rwa [beq_iff_eq] at this
      have hs := rs_stop (b :: t) t b p 0 (-1) 0 (k - 3) rfl hl (by rw [Ne, isD_iff]; omega)
      rw [if_neg (by omega), if_pos ⟨hb, rfl⟩, show k - 3 + 3 = k by omega] at hs
      rw [show (0 : Int) = ((0 : Nat) : Int) from rfl] at hs ⊢
      rw [hs]
      exact h (k - 3) (by omega) (by omega)
theorem told_spec (p : Nat) (hp : p ≤ 6) (S l : List UInt8) (hlb : l = bodyOf S) (R : Int × Bool) (hR : Told p (negOf S) l R) (hl : S.length ≤ 20) (k : Nat) (hk : 300 ≤ k) : spec_ReadMoney.l0 k (bs S) (p : Int) 0 (-1) (stOf S : Int) = some R := by
  have hS0 : S.drop (stOf S) = l := by
    rw [hlb]; unfold stOf bodyOf; split <;> rfl
  have hsp : S = (if negOf S = true then [45] else []) ++ l := by rw [hlb]; exact sign_app S
  have hsl : S.length = stOf S + l.length := by
    have := congrArg List.length hsp
    rw [List.length_append] at this
    unfold stOf
    cases hn : negOf S <;> rw [hn] at this <;> simpa using this
  have first : ∀ (ds r : List UInt8), l = ds ++ r → (∀ b ∈ ds, isD b = true) → ∃ q, 200 ≤ q ∧ spec_ReadMoney.l0 k (bs S) (p : Int) 0 (-1) (stOf S : Int) = if val ds 0 ≤ 100000000000 then spec_ReadMoney.l0 q (bs S) (p : Int) ((val ds 0 : Nat) : Int) (-1) ((stOf S + ds.length : Nat) : Int) else some (0, false) := by
    intro ds r he hd
    have hz : l.length = ds.length + r.length := by rw [he, List.length_append]
    refine ⟨k - 2 * ds.length, by omega, ?_⟩
    have h := rs_digits S p (by omega) ds (stOf S) 0 (k - 2 * ds.length) (-1) r (by rw [hS0, he]) hd (by omega) (by omega) (by omega)
    rw [show k - 2 * ds.length + 2 * ds.length = k by omega, if_neg (show ¬ (-1 : Int) ≥ 0 by decide)] at h
    exact h
  cases hR with
  | whole _ hd =>
    obtain ⟨q, hq, h⟩ := first l [] (by rw [List.append_nil]) hd
    rw [h]
    by_cases hv : val l 0 ≤ 100000000000
    · have hw : want p (negOf S) l (List.replicate p 48) = S ++ (if p = 0 then [] else 46 :: List.replicate p 48) := by
        unfold want
        rw [← List.append_assoc, ← hsp]
      have hm := showM_want p hp (negOf S) l (List.replicate p 48) (by simp) (by intro b hb; rw [List.eq_of_mem_replicate hb]; rfl) hd
      rw [if_pos hv, rs_over S p (val l 0) q _ (by omega) (by omega) hp hv (by omega), ← hw, hm]
    · rw [if_neg hv]
      unfold fin
      rw [if_neg]
      intro hh
      have := val_ge (List.replicate p 48) (val l 0)
      exact hv (by omega)
  | point ds c fs hd hc hf h1 h2 =>
    have hn : isD c ≠ true := by rw [Ne, isD_iff]; omega
    have hS1 : S.drop (stOf S + ds.length) = c :: fs := by rw [← List.drop_drop, hS0, List.drop_left]
    have hz : ds.length + (fs.length + 1) + stOf S = S.length := by rw [hsl, List.length_append, List.length_cons]; omega
    obtain ⟨q, hq, h⟩ := first ds (c :: fs) rfl hd
    rw [h]
    have hbig : ∀ v, v ≤ val (fs ++ List.replicate (p - fs.length) 48) (val ds 0) → ¬ v ≤ 100000000000 → fin (negOf S) ds (fs ++ List.replicate (p - fs.length) 48) = (0, false) := by
      intro v hv1 hv2
      unfold fin
      rw [if_neg]
      intro hh
      exact hv2 (by omega)
    by_cases hv : val ds 0 ≤ 100000000000
    · obtain ⟨q, rfl⟩ : ∃ m, q = m + 3 := ⟨q - 3, by omega⟩
      rw [if_pos hv, rs_stop S fs c (p : Int) _ (-1) _ q hS1 (by omega) hn, if_pos ⟨hc, by decide⟩]
      have hS2 := (bt_drop S _ c fs hS1).2.2
      have h3 := rs_digits S (p : Int) (by omega) fs (stOf S + ds.length + 1) (val ds 0) (q - 2 * fs.length) 0 [] (by rw [List.append_nil]; exact hS2) hf hv (by omega) (by omega)
      rw [show q - 2 * fs.length + 2 * fs.length = q by omega, if_pos (show (0 : Int) ≥ 0 by decide), Int.zero_add] at h3
      rw [h3]
      by_cases hv2 : val fs (val ds 0) ≤ 100000000000
      · rw [if_pos hv2, rs_over2 S p _ (q - 2 * fs.length) _ fs.length (by omega) (by omega) hp hv2 (by omega) (by omega), if_pos ⟨h1, h2⟩]
        have hw : want p (negOf S) ds (fs ++ List.replicate (p - fs.length) 48) = S ++ List.replicate (p - fs.length) 48 := by
          have hc' : c = 46 := UInt8.toNat_inj.1 hc
          rw [hc'] at hsp
          unfold want
          rw [if_neg (show ¬ p = 0 by omega)]
          refine Eq.trans ?_ (congrArg (· ++ List.replicate (p - fs.length) 48) hsp.symm)
          simp
        have hm := showM_want p hp (negOf S) ds (fs ++ List.replicate (p - fs.length) 48) (by simp; omega) (by
          intro b hb
          rcases List.mem_append.1 hb with hb | hb
          · exact hf b hb
          · rw [List.eq_of_mem_replicate hb]; rfl) hd
        rw [← val_app, ← hw, hm]
      · rw [if_neg hv2, hbig (val fs (val ds 0)) (by rw [val_app]; exact val_ge _ _) hv2]
    · rw [if_neg hv, hbig (val ds 0) (val_ge _ _) hv]
  | badF ds c fs r hd hc hf hr hno =>
    have hn : isD c ≠ true := by rw [Ne, isD_iff]; omega
    have hS1 : S.drop (stOf S + ds.length) = c :: (fs ++ r) := by rw [← List.drop_drop, hS0, List.drop_left]
    have hz : ds.length + (fs.length + r.length + 1) + stOf S = S.length := by rw [hsl, List.length_append, List.length_cons, List.length_append]; omega
    obtain ⟨q, hq, h⟩ := first ds (c :: (fs ++ r)) rfl hd
    rw [h]
    by_cases hv : val ds 0 ≤ 100000000000
    · obtain ⟨q, rfl⟩ : ∃ m, q = m + 3 := ⟨q - 3, by omega⟩
      rw [if_pos hv, rs_stop S (fs ++ r) c (p : Int) _ (-1) _ q hS1 (by omega) hn, if_pos ⟨hc, by decide⟩]
      have hS2 := (bt_drop S _ c (fs ++ r) hS1).2.2
      have h3 := rs_digits S (p : Int) (by omega) fs (stOf S + ds.length + 1) (val ds 0) (q - 2 * fs.length) 0 r hS2 hf hv (by omega) (by omega)
      rw [show q - 2 * fs.length + 2 * fs.length = q by omega, if_pos (show (0 : Int) ≥ 0 by decide), Int.zero_add] at h3
      rw [h3]
      by_cases hv2 : val fs (val ds 0) ≤ 100000000000
      · rw [if_pos hv2]
        rcases hr with rfl | ⟨c', t, rfl, hc'⟩
        · rw [rs_over2 S p _ (q - 2 * fs.length) _ fs.length (by simp at hz; omega) (by omega) hp hv2 (by omega) (by omega), if_neg (fun hh => hno ⟨hh.1, hh.2, rfl⟩)]
        · have hS3 : S.drop (stOf S + ds.length + 1 + fs.length) = c' :: t := by rw [← List.drop_drop, hS2, List.drop_left]
          have h4 := rs_stop S t c' (p : Int) ((val fs (val ds 0) : Nat) : Int) (fs.length : Int) _ (q - 2 * fs.length - 3) hS3 (by omega) hc'
          rw [show q - 2 * fs.length - 3 + 3 = q - 2 * fs.length by omega] at h4
          rw [h4, if_neg (by omega), if_neg (by omega)]
      · rw [if_neg hv2]
    · rw [if_neg hv]
  | badD ds c t hd hc hn =>
    have hS1 : S.drop (stOf S + ds.length) = c :: t := by rw [← List.drop_drop, hS0, List.drop_left]
    obtain ⟨q, hq, h⟩ := first ds (c :: t) rfl hd
    rw [h]
    by_cases hv : val ds 0 ≤ 100000000000
    · obtain ⟨q, rfl⟩ : ∃ m, q = m + 3 := ⟨q - 3, by omega⟩
      rw [if_pos hv, rs_stop S t c (p : Int) _ (-1) _ q hS1 (by omega) hn, if_neg (fun hh => hc hh.1), if_neg]
      rintro ⟨h4, h5⟩
      have h6 : stOf S = 0 := by omega
      have h7 : ds = [] := List.length_eq_zero_iff.1 (by omega)
      have h8 : negOf S ≠ true := by
        intro h8
        unfold stOf at h6
        rw [if_pos h8] at h6
        cases h6
      rw [if_neg h8, h7] at hsp
      apply h8
      rw [hsp]
      show (c.toNat == 45) = true
      rw [h4]; rfl
    · rw [if_neg hv]
theorem told_long (p : Nat) (hp : p ≤ 6) (neg : Bool) (l : List UInt8) (R : Int × Bool) (hR : Told p neg l R) (hl : 20 ≤ l.length) : R = (0, false) := by
  cases hR with
  | whole _ hd => exact fin_bad _ _ _ (fun h => by omega)
  | point ds c fs hd hc hf h1 h2 =>
    rw [List.length_append, List.length_cons] at hl
    exact fin_bad _ _ _ (fun h => by omega)
  | badF ds c fs r hd hc hf hr hno => rfl
  | badD ds c t hd hc hn => rfl

theorem FnExactReadMoney : laws_FnExactReadMoney.Pure := by
  intro a p ha hp
  refine ⟨4000000, ?_⟩
  unfold laws_FnExactReadMoney.f
  by_cases h1 : (a.size : Int) > 1048576
  · rw [if_pos h1]
  · rw [if_neg h1]
    obtain ⟨S, rfl⟩ : ∃ x, a = bs x := ⟨_, (bs_self a).symm⟩
    rw [bs_size] at h1
    have both : ∃ R, spec_ReadMoney.f 4000000 (bs S) p = some R ∧ impl_ReadMoney.f 4000000 (bs S) p = some R := by
      by_cases hq : 0 ≤ p ∧ p ≤ 6
      · obtain ⟨p, rfl⟩ : ∃ q : Nat, p = q := ⟨p.toNat, by omega⟩
        obtain ⟨R, hR⟩ := told_all p (negOf S) (bodyOf S)
        refine ⟨R, ?_, read_impl p (by omega) S R hR (by omega) _ (by omega)⟩
        unfold spec_ReadMoney.f
        rw [l1In_eq, Option.bind_some, if_pos (decide_eq_true (by omega)), bs_size]
        by_cases hz : (S.length : Int) > 20
        · have hb : 20 ≤ (bodyOf S).length := by
            unfold bodyOf
            split
            · rw [List.length_drop]; omega
            · omega
          rw [decide_eq_true hz, show (4000000 : Nat) = 3999999 + 1 from rfl, spec_ReadMoney.j0, if_pos rfl, told_long p (by omega) _ _ R hR hb]
        · rw [decide_eq_false hz, show (4000000 : Nat) = 3999999 + 1 from rfl, spec_ReadMoney.j0, if_neg (by simp)]
          exact rs_start S (p : Int) 3999999 (by omega) (by omega) _ (fun q hq1 hq2 => told_spec p (by omega) S _ rfl R hR (by omega) q (by omega))
      · refine ⟨(0, false), ?_, ?_⟩
        · unfold spec_ReadMoney.f
          rw [l1In_eq, Option.bind_some, if_neg (by rw [decide_eq_true_eq]; exact hq), show (4000000 : Nat) = 3999999 + 1 from rfl, spec_ReadMoney.j0, if_pos rfl]
        · unfold impl_ReadMoney.f
          rw [between_eq, Option.bind_some, if_neg (by rw [decide_eq_true_eq]; exact hq)]
    obtain ⟨R, r1, r2⟩ := both
    rw [r1, Option.bind_some, r2, Option.bind_some, if_pos rfl, if_neg (by simp)]

end Go.Proofs.Ytegkhdobjcdfnaf.Pure
