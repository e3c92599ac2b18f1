/- What ShowMoney writes, ReadMoney reads back, at every number of places. Conditions: none. -/
import Derived.Test.YtegkhdobjcdfnafPFnMoneyBackx0
import Derived.Test.YtegkhdobjcdfnafPFnMoneyBackx1
import Derived.Test.YtegkhdobjcdfnafPFnMoneyBackx2
import Derived.Test.YtegkhdobjcdfnafPFnMoneyBackx3
import Derived.Test.YtegkhdobjcdfnafPFnMoneyBackx4
import Derived.Test.YtegkhdobjcdfnafPureAid
import Derived.Test.YtegkhdobjcdfnafWMore
namespace Go.Proofs.Ytegkhdobjcdfnaf.Pure
open Go Go.RowKit Go.Proofs.Ytegkhdobjcdfnaf.PFnMoneyBack Go.Proofs.YtegkhdobjcdfnafW.PrintWords Go.Proofs.YtegkhdobjcdfnafW.PrintLast Go.Proofs.Ytegkhdobjcdfnaf.Aid
set_option linter.unusedVariables false
set_option linter.unusedSimpArgs false
set_option maxRecDepth 100000
set_option maxHeartbeats 4000000
def bs (l : List UInt8) : ByteArray := ⟨l.toArray⟩
theorem bs_toList (l : List UInt8) : (bs l).toList = l := ByteArray.toList_mk l
theorem bs_size (l : List UInt8) : (bs l).size = l.length := by unfold bs; simp [ByteArray.size]
theorem bs_app (a b : List UInt8) : bs a ++ bs b = bs (a ++ b) := by
  unfold bs
  apply ByteArray.ext
  simp
theorem bs_ext (l : List UInt8) (u v : Nat) : (bs l).extract u v = bs ((l.take v).drop u) := by
  unfold bs
  apply ByteArray.ext
  simp [ByteArray.data_extract, List.extract_eq_take_drop, List.drop_take]
def dg (n : Nat) : UInt8 := UInt8.ofNat (48 + n)
/-- The digits of a number, b of them at most. -/
def digF : Nat → Nat → List UInt8
  | 0, n => [dg n]
  | b + 1, n => if n < 10 then [dg n] else digF b (n / 10) ++ [dg (n % 10)]
theorem digF_more : ∀ (b c n : Nat), n ≤ b → n ≤ c → digF b n = digF c n := by
  intro b
  induction b with
  | zero =>
    intro c n h1 h2
    obtain rfl : n = 0 := by omega
    cases c <;> rfl
  | succ b ih =>
    intro c n h1 h2
    cases c with
    | zero => obtain rfl : n = 0 := by omega
              rfl
    | succ c =>
      unfold digF
      by_cases h : n < 10
      · rw [if_pos h, if_pos h]
      · rw [if_neg h, if_neg h, ih c (n / 10) (by omega) (by omega)]
/-- The digits of a number. -/
def dig (n : Nat) : List UInt8 := digF n n
theorem dig_lt (n : Nat) (h : n < 10) : dig n = [dg n] := by
  unfold dig
  cases n with
  | zero => rfl
  | succ n => unfold digF; rw [if_pos h]
theorem dig_ge (n : Nat) (h : ¬ n < 10) : dig n = dig (n / 10) ++ [dg (n % 10)] := by
  unfold dig
  obtain ⟨m, rfl⟩ : ∃ m, n = m + 1 := ⟨n - 1, by omega⟩
  rw [digF_more ((m + 1) / 10) m ((m + 1) / 10) (Nat.le_refl _) (by omega)]
  show (if m + 1 < 10 then _ else _) = _
  rw [if_neg h]
theorem dig_len : ∀ (m n : Nat), n < 10 ^ m → 1 ≤ (dig n).length ∧ ((dig n).length ≤ m ∨ (dig n).length = 1) := by
  intro m
  induction m with
  | zero => intro n h; rw [Nat.pow_zero] at h; rw [dig_lt n (by omega)]; simp
  | succ m ih =>
    intro n h
    by_cases h10 : n < 10
    · rw [dig_lt n h10]; simp
    · rw [dig_ge n h10, List.length_append, List.length_singleton]
      have := ih (n / 10) (by rw [Nat.pow_succ] at h; omega)
      have h3 : 0 < m := by
        rcases Nat.eq_zero_or_pos m with h | h4
        · subst h; simp at h; omega
        · exact h4
      omega
theorem lit_at : ∀ n, n < 10 → (⟨#[48, 49, 50, 51, 52, 53, 54, 55, 56, 57]⟩ : ByteArray).extract n (n + 1) = bs [dg n] := by decide
theorem lit_atI (n : Nat) (h : n < 10) : (⟨#[48, 49, 50, 51, 52, 53, 54, 55, 56, 57]⟩ : ByteArray).extract (n : Int).toNat (wrap64 ((n : Int) + 1)).toNat = bs [dg n] := by
  have e : (wrap64 ((n : Int) + 1)).toNat = n + 1 := by unfold wrap64; omega
  rw [e, Int.toNat_natCast]
  exact lit_at n h
theorem tdiv10 (n : Nat) (h : n ≤ 9223372036854775807) : wrap64 (Int.tdiv (n : Int) 10) = ((n / 10 : Nat) : Int) := by
  rw [Int.tdiv_eq_ediv_of_nonneg (by omega), w64 (by omega) (by omega)]; omega
theorem tmod10 (n : Nat) : Int.tmod (n : Int) 10 = ((n % 10 : Nat) : Int) := by
  rw [Int.tmod_eq_emod_of_nonneg (by omega)]; omega

theorem digit_num (n : Nat) : strOfNums ([wrap64 (48 + Int.tmod (n : Int) 10) % 256] : List Int) = bs [dg (n % 10)] := by
  rw [tmod10 n, w64 (by omega) (by omega)]
  unfold strOfNums bs dg
  have e : ((48 + ((n % 10 : Nat) : Int)) % 256) = ((48 + n % 10 : Nat) : Int) := by omega
  rw [e]
  rfl
theorem decLoop_end (k : Nat) (acc : ByteArray) : impl_decimal.l0 (k + 1) ((0 : Nat) : Int) acc = some acc := by
  simp only [impl_decimal.l0]
  rw [if_neg (by omega)]
theorem decLoop_go (n k : Nat) (acc : List UInt8) (h0 : n ≠ 0) (hn : n ≤ 9223372036854775807) (hl : acc.length ≤ 1000) : impl_decimal.l0 (k + 1) (n : Int) (bs acc) = impl_decimal.l0 k ((n / 10 : Nat) : Int) (bs (dg (n % 10) :: acc)) := by
  have hz : (bs [dg (n % 10)]).size + (bs acc).size ≤ 9223372036854775807 := by rw [bs_size, bs_size, List.length_singleton]; omega
  simp only [impl_decimal.l0, Option.bind_some]
  rw [if_pos (by omega), digit_num n, tdiv10 n hn, if_pos hz, bs_app]; rfl
theorem decLoop : ∀ (m n k : Nat) (acc : List UInt8), n < 10 ^ m → n ≤ 9223372036854775807 → m < k → acc.length + m ≤ 1000 → impl_decimal.l0 k (n : Int) (bs acc) = some (bs ((if n = 0 then [] else dig n) ++ acc)) := by
  intro m
  induction m with
  | zero =>
    intro n k acc h _ hk _
    obtain ⟨k, rfl⟩ : ∃ q, k = q + 1 := ⟨k - 1, by omega⟩
    rw [Nat.pow_zero] at h
    obtain rfl : n = 0 := by omega
    exact decLoop_end k _
  | succ m ih =>
    intro n k acc h hn hk hl
    obtain ⟨k, rfl⟩ : ∃ q, k = q + 1 := ⟨k - 1, by omega⟩
    by_cases h0 : n = 0
    · subst h0; exact decLoop_end k _
    · have hp : n / 10 < 10 ^ m := by rw [Nat.pow_succ] at h; omega
      have hd : n / 10 ≤ n := Nat.div_le_self _ _
      rw [decLoop_go n k acc h0 hn (by omega), ih (n / 10) k _ hp (Nat.le_trans hd hn) (by omega) (by simp; omega), if_neg h0]
      by_cases h10 : n < 10
      · rw [if_pos (by omega), dig_lt n h10, show n % 10 = n by omega]; rfl
      · rw [if_neg (by omega), dig_ge n h10, List.append_assoc]; rfl
theorem decimal_go (n k : Nat) (hn : n ≤ 9223372036854775807) : impl_decimal.f (k + 1) (n : Int) = impl_decimal.l0 k ((n / 10 : Nat) : Int) (bs [dg (n % 10)]) := by
  simp only [impl_decimal.f]
  rw [if_neg (by omega), digit_num n, tdiv10 n hn]
theorem decimal_eq (m n k : Nat) (h : n < 10 ^ m) (hn : n ≤ 9223372036854775807) (hm : m ≤ 500) (hk : m + 1 < k) : impl_decimal.f k (n : Int) = some (bs (dig n)) := by
  obtain ⟨k, rfl⟩ : ∃ q, k = q + 1 := ⟨k - 1, by omega⟩
  have hd : n / 10 ≤ n := Nat.div_le_self _ _
  rw [decimal_go n k hn, decLoop m (n / 10) k _ (Nat.lt_of_le_of_lt hd h) (Nat.le_trans hd hn) (by omega) (by simp; omega)]
  by_cases h10 : n < 10
  · rw [if_pos (by omega), dig_lt n h10, show n % 10 = n by omega]; rfl
  · rw [if_neg (by omega), dig_ge n h10]

theorem two_dec (a b : Prop) [Decidable a] [Decidable b] : (if a then some (decide b) else some false) = some (decide (a ∧ b)) := by
  by_cases h : a
  · rw [if_pos h]; congr 1; rw [decide_eq_decide]; exact ⟨fun hb => ⟨h, hb⟩, fun hb => hb.2⟩
  · rw [if_neg h]; congr 1; symm; rw [decide_eq_false_iff_not]; exact fun hb => h hb.1

theorem between_eq (a b c : Int) : impl_between.f a b c = some (decide (b ≤ a ∧ a ≤ c)) := by unfold impl_between.f; exact two_dec (a ≥ b) (a ≤ c)

/-- p digits of a number, the last ones. -/
def fx : Nat → Nat → List UInt8
  | 0, _ => []
  | p + 1, n => fx p (n / 10) ++ [dg (n % 10)]
theorem fx_len : ∀ (p n : Nat), (fx p n).length = p := by
  intro p
  induction p with
  | zero => intro n; rfl
  | succ p ih => intro n; unfold fx; rw [List.length_append, ih]; rfl
theorem fx_zero : ∀ p, fx p 0 = List.replicate p 48 := by
  intro p
  induction p with
  | zero => rfl
  | succ p ih => unfold fx; rw [Nat.zero_div, ih, List.replicate_succ']; rfl
theorem fx_mod : ∀ (p n : Nat), fx p (n % 10 ^ p) = fx p n := by
  intro p
  induction p with
  | zero => intro n; rfl
  | succ p ih =>
    intro n
    unfold fx
    have h1 : n % 10 ^ (p + 1) / 10 = (n / 10) % 10 ^ p := by
      rw [Nat.pow_succ, Nat.mul_comm, Nat.mod_mul_right_div_self]
    have h2 : n % 10 ^ (p + 1) % 10 = n % 10 := by
      rw [Nat.pow_succ, Nat.mul_comm, Nat.mod_mul_right_mod]
    rw [h1, h2, ih]
theorem dig_one : ∀ (p r : Nat), r < 10 ^ p → dig (10 ^ p + r) = 49 :: fx p r := by
  intro p
  induction p with
  | zero => intro r h; rw [Nat.pow_zero] at h; obtain rfl : r = 0 := by omega
            rw [Nat.pow_zero, Nat.add_zero, dig_lt 1 (by omega)]; rfl
  | succ p ih =>
    intro r h
    rw [Nat.pow_succ] at h
    have hp : 0 < 10 ^ p := Nat.pow_pos (by omega)
    rw [Nat.pow_succ, dig_ge _ (by omega), show (10 ^ p * 10 + r) / 10 = 10 ^ p + r / 10 by omega, show (10 ^ p * 10 + r) % 10 = r % 10 by omega, ih (r / 10) (by omega)]
    rfl
def padz (p n : Nat) : List UInt8 := List.replicate (p + 1 - (dig n).length) 48 ++ dig n
theorem padz_eq : ∀ (p n : Nat), padz p n = dig (n / 10 ^ p) ++ fx p n := by
  intro p
  induction p with
  | zero =>
    intro n
    unfold padz fx
    have : 1 ≤ (dig n).length := (dig_len (n + 1) n (by exact Nat.lt_of_lt_of_le (Nat.lt_pow_self (by omega)) (Nat.pow_le_pow_right (by omega) (Nat.le_succ n)))).1
    rw [show 0 + 1 - (dig n).length = 0 by omega]
    simp
  | succ p ih =>
    intro n
    unfold fx
    by_cases h10 : n < 10
    · have hq : n / 10 ^ (p + 1) = 0 := by
        apply Nat.div_eq_of_lt
        have : 10 ≤ 10 ^ (p + 1) := by rw [Nat.pow_succ]; have := Nat.pow_pos (n := p) (show 0 < 10 by omega); omega
        omega
      rw [hq, show n / 10 = 0 by omega, fx_zero, show n % 10 = n by omega]
      unfold padz
      rw [dig_lt n h10, dig_lt 0 (by omega), List.length_singleton, show p + 1 + 1 - 1 = p + 1 by omega, List.replicate_succ]
      rfl
    · have h2 := ih (n / 10)
      unfold padz at h2 ⊢
      rw [dig_ge n h10, List.length_append, List.length_singleton, show p + 1 + 1 - ((dig (n / 10)).length + 1) = p + 1 - (dig (n / 10)).length by omega, ← List.append_assoc, h2, Nat.div_div_eq_div_mul, Nat.pow_succ, Nat.mul_comm 10, List.append_assoc]

/-- An amount, not below 0, as it is written. -/
def showN (n p : Nat) : List UInt8 := if p = 0 then dig n else dig (n / 10 ^ p) ++ 46 :: fx p n
/-- An amount as it is written. -/
def showM (a p : Int) : ByteArray :=
  if (-100000000000 ≤ a ∧ a ≤ 100000000000) ∧ (0 ≤ p ∧ p ≤ 6) then (if a < 0 then bs (45 :: showN (-a).toNat p.toNat) else bs (showN a.toNat p.toNat)) else bs []
theorem tens (p : Nat) (h : p ≤ 6) : 1 ≤ 10 ^ p ∧ 10 ^ p ≤ 1000000 := by
  rcases (by omega : p = 0 ∨ p = 1 ∨ p = 2 ∨ p = 3 ∨ p = 4 ∨ p = 5 ∨ p = 6) with rfl | rfl | rfl | rfl | rfl | rfl | rfl <;> omega
theorem dig_len12 (n : Nat) (h : n ≤ 100000000000) : (dig n).length ≤ 13 := by
  have := dig_len 12 n (by omega)
  omega
theorem tail_app (l : List UInt8) (b : UInt8) : (bs (b :: l)).extract 1 (bs (b :: l)).size = bs l := by
  rw [bs_ext, bs_size]; simp

theorem padLoop (p : Nat) (hp : p ≤ 6) (sg : List UInt8) (hsg : sg.length ≤ 1) : ∀ (d k : Nat) (l : List UInt8), l.length + d = max (p + 1) l.length → d < k → 1 ≤ l.length → l.length ≤ 20 → impl_ShowMoney.l0 k (p : Int) (bs sg) (bs l) =
    some (bs (sg ++ (if p = 0 then List.replicate d 48 ++ l else (List.replicate d 48 ++ l).take (l.length + d - p) ++ 46 :: (List.replicate d 48 ++ l).drop (l.length + d - p)))) := by
  intro d
  induction d with
  | zero =>
    intro k l hd hk h1 h2
    obtain ⟨k, rfl⟩ : ∃ q, k = q + 1 := ⟨k - 1, by omega⟩
    have hlp : p < l.length := by omega
    simp only [impl_ShowMoney.l0]
    have c0 : ¬ ((bs l).size : Int) ≤ (p : Int) := by rw [bs_size]; omega
    have e : wrap64 (((bs l).size : Int) - (p : Int)) = ((l.length - p : Nat) : Int) := by rw [bs_size, w64 (by omega) (by omega)]; omega
    rw [if_neg c0]
    by_cases h0 : p = 0
    · have c1 : (bs sg).size + (bs l).size ≤ 9223372036854775807 := by rw [bs_size, bs_size]; omega
      rw [if_pos (by omega), if_pos c1, bs_app, if_pos h0]; rfl
    · rw [if_neg (by omega), e, Int.toNat_natCast]
      have c2 : ((l.length - p : Nat) : Int) ≤ ((bs l).size : Int) := by rw [bs_size]; omega
      have hz : (bs l).size = l.length := bs_size l
      rw [hz] at c2
      have eL : (bs l).extract 0 (l.length - p) = bs (l.take (l.length - p)) := by rw [bs_ext, List.drop_zero]
      have eR : (bs l).extract (l.length - p) l.length = bs (l.drop (l.length - p)) := by rw [bs_ext, List.take_length]
      have c3 : (bs sg).size + (bs (l.take (l.length - p))).size ≤ 9223372036854775807 := by rw [bs_size, bs_size, List.length_take]; omega
      have c4 : (bs sg ++ bs (l.take (l.length - p))).size + 1 ≤ 9223372036854775807 := by rw [bs_app, bs_size, List.length_append, List.length_take]; omega
      have c5 : ((bs sg ++ bs (l.take (l.length - p))) ++ (⟨#[46]⟩ : ByteArray)).size + (bs (l.drop (l.length - p))).size ≤ 9223372036854775807 := by
        rw [bs_app, show (⟨#[46]⟩ : ByteArray) = bs [46] from rfl, bs_app, bs_size, bs_size, List.length_append, List.length_append, List.length_take, List.length_drop, List.length_singleton]; omega
      rw [if_pos (by omega), hz, if_pos c2, eL, eR, if_pos c3, if_pos c4, if_pos c5, show (⟨#[46]⟩ : ByteArray) = bs [46] from rfl, bs_app, bs_app, bs_app, if_neg h0]
      simp only [List.replicate_zero, List.nil_append, Nat.add_zero, List.append_assoc, List.singleton_append]
  | succ d ih =>
    intro k l hd hk h1 h2
    obtain ⟨k, rfl⟩ : ∃ q, k = q + 1 := ⟨k - 1, by omega⟩
    have hlp : l.length ≤ p := by omega
    have c0 : ((bs l).size : Int) ≤ (p : Int) := by rw [bs_size]; omega
    have c1 : 1 + (bs l).size ≤ 9223372036854775807 := by rw [bs_size]; omega
    simp only [impl_ShowMoney.l0]
    rw [if_pos c0, if_pos c1, show (⟨#[48]⟩ : ByteArray) = bs [48] from rfl, bs_app, ih k ([48] ++ l) (by simp; omega) (by omega) (by simp) (by simp; omega)]
    have e1 : List.replicate d (48 : UInt8) ++ ([48] ++ l) = List.replicate (d + 1) 48 ++ l := by rw [List.replicate_succ', List.append_assoc]
    have e2 : ([48] ++ l).length + d = l.length + (d + 1) := by simp; omega
    rw [e1, e2]
theorem moneyImplN (n p k : Nat) (sg : List UInt8) (hsg : sg.length ≤ 1) (hn : n ≤ 100000000000) (hp : p ≤ 6) (hk : 30 ≤ k) : impl_ShowMoney.j1 (k + 1) (n : Int) (p : Int) (bs sg) = some (bs (sg ++ showN n p)) := by
  simp only [impl_ShowMoney.j1]
  have hl := dig_len12 n hn
  have hl1 : 1 ≤ (dig n).length := (dig_len 12 n (by omega)).1
  have hpz := padz_eq p n
  rw [decimal_eq 12 n k (by omega) (by omega) (by omega) (by omega), Option.bind_some, padLoop p hp sg hsg (p + 1 - (dig n).length) k (dig n) (by omega) (by omega) hl1 (by omega)]
  unfold padz at hpz
  unfold showN
  have hB : (fx p n).length = p := fx_len p n
  by_cases h0 : p = 0
  · subst h0
    rw [if_pos rfl, if_pos rfl, show 0 + 1 - (dig n).length = 0 by omega]
    rfl
  · rw [if_neg h0, if_neg h0, hpz]
    have hlen := congrArg List.length hpz
    rw [List.length_append, List.length_append, List.length_replicate, hB] at hlen
    rw [show (dig n).length + (p + 1 - (dig n).length) - p = (dig (n / 10 ^ p)).length by omega, List.take_left, List.drop_left]
theorem moneyImpl (a p : Int) (h1 : -9223372036854775808 ≤ a ∧ a ≤ 9223372036854775807) (k : Nat) (hk : 40 ≤ k) : impl_ShowMoney.f k a p = some (showM a p) := by
  obtain ⟨k, rfl⟩ : ∃ q, k = q + 2 := ⟨k - 2, by omega⟩
  unfold showM impl_ShowMoney.f impl_amount.f
  rw [between_eq, Option.bind_some, Option.bind_some]
  by_cases hA : -100000000000 ≤ a ∧ a ≤ 100000000000
  · rw [if_pos (decide_eq_true hA), between_eq, Option.bind_some]
    by_cases hp : 0 ≤ p ∧ p ≤ 6
    · rw [if_pos ⟨hA, hp⟩, decide_eq_true hp]
      simp only [impl_ShowMoney.j0]
      rw [if_neg (by simp)]
      obtain ⟨q, rfl⟩ : ∃ q : Nat, p = q := ⟨p.toNat, by omega⟩
      by_cases hneg : a < 0
      · obtain ⟨n, hn⟩ : ∃ n : Nat, -a = n := ⟨(-a).toNat, by omega⟩
        have e : wrap64 (-a) = (n : Int) := by rw [hn, w64 (by omega) (by omega)]
        rw [if_pos hneg, if_pos hneg, e, show (⟨#[45]⟩ : ByteArray) = bs [45] from rfl, moneyImplN n q k [45] (by simp) (by omega) (by omega) (by omega), hn, Int.toNat_natCast, Int.toNat_natCast]
        rfl
      · obtain ⟨n, rfl⟩ : ∃ n : Nat, a = n := ⟨a.toNat, by omega⟩
        rw [if_neg hneg, if_neg hneg, show (⟨#[]⟩ : ByteArray) = bs [] from rfl, moneyImplN n q k [] (by simp) (by omega) (by omega) (by omega), Int.toNat_natCast, Int.toNat_natCast]
        rfl
    · rw [if_neg (fun h => hp h.2), decide_eq_false hp]
      rfl
  · rw [if_neg (show ¬ ((-100000000000 ≤ a ∧ a ≤ 100000000000) ∧ (0 ≤ p ∧ p ≤ 6)) from fun h => hA h.1), if_neg (by rw [decide_eq_true_eq]; exact hA)]
    rfl

theorem bt_lt (s : ByteArray) (i : Nat) (h : i < s.size) : bt s (i : Int) = ((s[i]'h).toNat : Int) := by
  unfold bt
  rw [dif_pos (by simpa using h)]
  rfl
theorem bt_app_left (a b : ByteArray) (i : Nat) (h : i < a.size) : bt (a ++ b) (i : Int) = bt a (i : Int) := by
  rw [bt_lt _ _ (by rw [ByteArray.size_append]; omega), bt_lt _ _ h, ByteArray.getElem_append_left h]
theorem bt_app_right (a b : ByteArray) (i : Nat) (h : i < b.size) : bt (a ++ b) ((a.size + i : Nat) : Int) = bt b (i : Int) := by
  rw [bt_lt _ _ (by rw [ByteArray.size_append]; omega), bt_lt _ _ h, ByteArray.getElem_append_right (by omega)]
  simp
theorem bt_ext (s : ByteArray) (u v i : Nat) (h : u + i < v) (hv : v ≤ s.size) : bt (s.extract u v) (i : Int) = bt s ((u + i : Nat) : Int) := by
  rw [bt_lt _ _ (by rw [ByteArray.size_extract]; omega), bt_lt _ _ (by omega), ByteArray.getElem_extract]

theorem bs_self (s : ByteArray) : bs s.data.toList = s := by
  unfold bs
  apply ByteArray.ext
  simp
theorem bt_bs (l : List UInt8) (i : Nat) (h : i < l.length) : bt (bs l) (i : Int) = ((l[i]'h).toNat : Int) := by
  rw [bt_lt (bs l) i (by rw [bs_size]; exact h)]
  rfl

def isD (b : UInt8) : Bool := decide (48 ≤ b.toNat ∧ b.toNat ≤ 57)
theorem isD_iff (b : UInt8) : isD b = true ↔ 48 ≤ b.toNat ∧ b.toNat ≤ 57 := by unfold isD; rw [decide_eq_true_eq]
/-- The number that digits write, begun at n. -/
def val : List UInt8 → Nat → Nat
  | [], n => n
  | b :: l, n => val l (n * 10 + (b.toNat - 48))
theorem val_app : ∀ (a b : List UInt8) (n : Nat), val (a ++ b) n = val b (val a n) := by
  intro a
  induction a with
  | nil => intro b n; rfl
  | cons x a ih => intro b n; exact ih b _
theorem val_shift : ∀ (l : List UInt8) (n : Nat), val l n = n * 10 ^ l.length + val l 0 := by
  intro l
  induction l with
  | nil => intro n; simp [val]
  | cons b l ih =>
    intro n
    show val l _ = _ + val l _
    rw [ih (n * 10 + _), ih (0 * 10 + _), List.length_cons, Nat.pow_succ]
    have e : n * 10 * 10 ^ l.length = n * (10 ^ l.length * 10) := by rw [Nat.mul_assoc, Nat.mul_comm 10]
    rw [Nat.add_mul, Nat.zero_mul, Nat.zero_add, e, Nat.add_assoc]
theorem val_ge (l : List UInt8) (n : Nat) : n ≤ val l n := by
  rw [val_shift]
  have : n ≤ n * 10 ^ l.length := Nat.le_mul_of_pos_right _ (Nat.pow_pos (by omega))
  omega
theorem val_lt : ∀ (l : List UInt8), (∀ b ∈ l, isD b = true) → val l 0 < 10 ^ l.length := by
  intro l
  induction l with
  | nil => intro _; simp [val]
  | cons b l ih =>
    intro h
    have hb := (isD_iff b).1 (h b (by simp))
    have hl := ih (fun c hc => h c (by simp [hc]))
    show val l _ < _
    rw [val_shift, List.length_cons, Nat.pow_succ]
    have : (0 * 10 + (b.toNat - 48)) * 10 ^ l.length ≤ 9 * 10 ^ l.length := Nat.mul_le_mul_right _ (by omega)
    omega
theorem val_zeros : ∀ (d n : Nat), val (List.replicate d 48) n = n * 10 ^ d := by
  intro d
  induction d with
  | zero => intro n; simp [val]
  | succ d ih =>
    intro n
    show val (List.replicate d 48) (n * 10 + 0) = _
    rw [ih, Nat.add_zero, Nat.pow_succ, Nat.mul_assoc, Nat.mul_comm 10]
theorem dg_of (b : UInt8) (h : isD b = true) : dg (b.toNat - 48) = b := by
  rw [isD_iff] at h
  unfold dg
  rw [show 48 + (b.toNat - 48) = b.toNat by omega]
  exact UInt8.ofNat_toNat
theorem snoc_of (l : List UInt8) (n : Nat) (h : l.length = n + 1) : ∃ a b, l = a ++ [b] ∧ a.length = n := by
  have hne : l ≠ [] := by intro h0; rw [h0] at h; cases h
  refine ⟨l.dropLast, l.getLast hne, (List.dropLast_concat_getLast hne).symm, ?_⟩
  rw [List.length_dropLast]; omega
theorem fx_val : ∀ (n : Nat) (l : List UInt8), l.length = n → (∀ b ∈ l, isD b = true) → fx n (val l 0) = l := by
  intro n
  induction n with
  | zero => intro l hl _; rw [List.length_eq_zero_iff] at hl; subst hl; rfl
  | succ n ih =>
    intro l hl h
    obtain ⟨a, b, rfl, ha⟩ := snoc_of l n hl
    have hb := h b (by simp)
    have hb' := (isD_iff b).1 hb
    have e : val (a ++ [b]) 0 = val a 0 * 10 + (b.toNat - 48) := by rw [val_app]; rfl
    show fx n (val (a ++ [b]) 0 / 10) ++ [dg (val (a ++ [b]) 0 % 10)] = _
    rw [e, show (val a 0 * 10 + (b.toNat - 48)) / 10 = val a 0 by omega, show (val a 0 * 10 + (b.toNat - 48)) % 10 = b.toNat - 48 by omega, ih a ha (fun c hc => h c (by simp [hc])), dg_of b hb]
theorem dig_val : ∀ (n : Nat) (l : List UInt8), l.length = n + 1 → (∀ b ∈ l, isD b = true) → (n = 0 ∨ ∀ b t, l = b :: t → b.toNat ≠ 48) → dig (val l 0) = l := by
  intro n
  induction n with
  | zero =>
    intro l hl h _
    obtain ⟨a, b, rfl, ha⟩ := snoc_of l 0 hl
    rw [List.length_eq_zero_iff] at ha; subst ha
    have hb := h b (by simp)
    have hb' := (isD_iff b).1 hb
    show dig (0 * 10 + (b.toNat - 48)) = [b]
    rw [dig_lt _ (by omega), show 0 * 10 + (b.toNat - 48) = b.toNat - 48 by omega, dg_of b hb]
  | succ n ih =>
    intro l hl h h0
    obtain ⟨a, b, rfl, ha⟩ := snoc_of l (n + 1) hl
    have hb := h b (by simp)
    have hb' := (isD_iff b).1 hb
    have e : val (a ++ [b]) 0 = val a 0 * 10 + (b.toNat - 48) := by rw [val_app]; rfl
    obtain ⟨c, t, rfl⟩ : ∃ c t, a = c :: t := by cases a with
      | nil => cases ha
      | cons c t => exact ⟨c, t, rfl⟩
    have hc : c.toNat ≠ 48 := by
      rcases h0 with h0 | h0
      · omega
      · exact h0 c (t ++ [b]) rfl
    have hc' := (isD_iff c).1 (h c (by simp))
    have hv : 1 ≤ val (c :: t) 0 := by
      have := val_ge t (0 * 10 + (c.toNat - 48))
      show 1 ≤ val t _
      omega
    rw [e, dig_ge _ (by omega), show (val (c :: t) 0 * 10 + (b.toNat - 48)) / 10 = val (c :: t) 0 by omega, show (val (c :: t) 0 * 10 + (b.toNat - 48)) % 10 = b.toNat - 48 by omega, ih (c :: t) ha (fun d hd => h d (by rw [List.mem_append]; exact .inl hd)) (.inr (fun b' t' he => by injection he with he _; subst he; exact hc)), dg_of b hb]
theorem dig_nil (l : List UInt8) (h : dig (val l 0) = l) : l ≠ [] := by
  intro h0
  subst h0
  have := (dig_len 1 0 (by omega)).1
  have h1 : dig 0 = [] := h
  rw [h1] at this
  simp at this
theorem dig_head (b : UInt8) (t : List UInt8) (ha : ∀ c ∈ b :: t, isD c = true) (h : dig (val (b :: t) 0) = b :: t) (ht : t ≠ []) : b.toNat ≠ 48 := by
  intro hb
  have e : val (b :: t) 0 = val t 0 := by show val t (0 * 10 + (b.toNat - 48)) = _; rw [hb]
  have hv := val_lt t (fun c hc => ha c (by simp [hc]))
  have hd := (dig_len t.length (val t 0) hv).2
  rw [← e, h, List.length_cons] at hd
  have : t.length ≠ 0 := fun h0 => ht (List.length_eq_zero_iff.1 h0)
  omega
theorem dig_short (l : List UInt8) (h : dig (val l 0) = l) (hv : val l 0 ≤ 100000000000) : l.length ≤ 12 := by
  have := (dig_len 12 (val l 0) (by omega)).2
  rw [h] at this
  omega
theorem digits_split : ∀ l : List UInt8, ∃ ds r, l = ds ++ r ∧ (∀ b ∈ ds, isD b = true) ∧ (r = [] ∨ ∃ c t, r = c :: t ∧ isD c ≠ true) := by
  intro l
  induction l with
  | nil => exact ⟨[], [], rfl, by simp, .inl rfl⟩
  | cons b l ih =>
    by_cases hb : isD b = true
    · obtain ⟨ds, r, rfl, h1, h2⟩ := ih
      refine ⟨b :: ds, r, rfl, ?_, h2⟩
      intro c hc
      rcases List.mem_cons.1 hc with rfl | hc
      · exact hb
      · exact h1 c hc
    · exact ⟨[], b :: l, rfl, by simp, .inr ⟨b, l, rfl, hb⟩⟩
theorem bt_drop (S : List UInt8) (i : Nat) (b : UInt8) (l : List UInt8) (h : S.drop i = b :: l) : i < S.length ∧ bt (bs S) (i : Int) = (b.toNat : Int) ∧ S.drop (i + 1) = l := by
  have hi : i < S.length := by
    have := congrArg List.length h
    rw [List.length_drop, List.length_cons] at this
    omega
  rw [List.drop_eq_getElem_cons hi] at h
  injection h with h1 h2
  exact ⟨hi, by rw [bt_bs S i hi, h1], h2⟩
/-- What a text of sign, digits and digits behind the point says. -/
def fin (neg : Bool) (ds gs : List UInt8) : Int × Bool :=
  if dig (val ds 0) = ds ∧ val gs (val ds 0) ≤ 100000000000 ∧ ¬ (val gs (val ds 0) = 0 ∧ neg = true) then ((if neg = true then -((val gs (val ds 0) : Nat) : Int) else ((val gs (val ds 0) : Nat) : Int)), true) else (0, false)

theorem digits_loop (S : List UInt8) (x1 : Nat) : ∀ (ds : List UInt8) (i v k : Nat) (r : List UInt8), S.drop i = ds ++ r → (∀ b ∈ ds, isD b = true) → (r = [] ∨ ∃ c t, r = c :: t ∧ isD c ≠ true) → x1 ≤ i → S.length ≤ 2000000 → (i < x1 + 17 → v < 10 ^ (i - x1)) →
    ∃ w : Nat, impl_digits.l0 (k + 2 + 2 * ds.length) (bs S) (x1 : Int) (v : Int) (i : Int) = some ((w : Int), ((i + ds.length : Nat) : Int)) ∧ (i + ds.length ≤ x1 + 16 → w = val ds v) := by
  intro ds
  induction ds with
  | nil =>
    intro i v k r hS _ hr hx hl _
    refine ⟨v, ?_, fun _ => rfl⟩
    rw [show k + 2 + 2 * ([] : List UInt8).length = k + 1 + 1 from rfl]
    rcases hr with rfl | ⟨c, t, rfl, hc⟩
    · have hi : S.length ≤ i := by simpa using hS
      simp only [impl_digits.l0, impl_digits.j1]
      have c0 : ¬ (i : Int) < ((bs S).size : Int) := by rw [bs_size]; omega
      rw [if_neg c0, if_neg (by simp)]
      simp
    · obtain ⟨hi, hb, _⟩ := bt_drop S i c t hS
      have hc : ¬ (48 ≤ c.toNat ∧ c.toNat ≤ 57) := fun h => hc ((isD_iff c).2 h)
      have c0 : (i : Int) < ((bs S).size : Int) := by rw [bs_size]; omega
      simp only [impl_digits.l0, impl_digits.j1]
      rw [if_pos c0, if_pos (by omega), hb]
      by_cases h : (c.toNat : Int) ≥ 48
      · rw [if_pos h, decide_eq_false (by omega), if_neg (by simp)]; simp
      · rw [if_neg h, if_neg (by simp)]; simp
  | cons b ds ih =>
    intro i v k r hS hd hr hx hl hv
    obtain ⟨hi, hb, hS'⟩ := bt_drop S i b (ds ++ r) hS
    have hb' := (isD_iff b).1 (hd b (by simp))
    have c0 : (i : Int) < ((bs S).size : Int) := by rw [bs_size]; omega
    have e1 : wrap64 ((i : Int) + 1) = ((i + 1 : Nat) : Int) := by rw [w64 (by omega) (by omega)]; omega
    have e2 : wrap64 ((i : Int) - (x1 : Int)) = ((i - x1 : Nat) : Int) := by rw [w64 (by omega) (by omega)]; omega
    have hf : k + 2 + 2 * (b :: ds).length = (k + 2 + 2 * ds.length) + 1 + 1 := by rw [List.length_cons]; omega
    have hd' : ∀ c ∈ ds, isD c = true := fun c hc => hd c (by simp [hc])
    rw [hf]
    simp only [impl_digits.l0, impl_digits.j1]
    rw [if_pos c0, if_pos (by omega), hb, if_pos (by omega), decide_eq_true (show (b.toNat : Int) ≤ 57 by omega), if_pos rfl, e2, e1]
    by_cases h16 : i < x1 + 16
    · have hv' := hv (by omega)
      have h15 : 10 ^ (i - x1) ≤ 10 ^ 15 := Nat.pow_le_pow_right (by omega) (by omega)
      have e3 : wrap64 (wrap64 ((v : Int) * 10) + ((b.toNat : Int) - 48) % 256) = ((v * 10 + (b.toNat - 48) : Nat) : Int) := by
        rw [w64 (x := (v : Int) * 10) (by omega) (by omega), w64 (by omega) (by omega)]; omega
      rw [if_pos (by omega), if_pos (by omega), if_pos c0, e3]
      have hp : 10 ^ (i + 1 - x1) = 10 ^ (i - x1) * 10 := by rw [show i + 1 - x1 = (i - x1) + 1 by omega, Nat.pow_succ]
      obtain ⟨w, h1, h2⟩ := ih (i + 1) (v * 10 + (b.toNat - 48)) k r hS' hd' hr (by omega) hl (fun _ => by rw [hp]; omega)
      refine ⟨w, ?_, fun h => h2 (by rw [List.length_cons] at h; omega)⟩
      rw [h1, List.length_cons, show i + 1 + ds.length = i + (ds.length + 1) by omega]
    · rw [if_neg (by omega)]
      obtain ⟨w, h1, h2⟩ := ih (i + 1) v k r hS' hd' hr (by omega) hl (fun h => by
        have := hv (by omega)
        rw [show i + 1 - x1 = (i - x1) + 1 by omega, Nat.pow_succ]; omega)
      refine ⟨w, ?_, fun h => ?_⟩
      · rw [h1, List.length_cons, show i + 1 + ds.length = i + (ds.length + 1) by omega]
      · rw [List.length_cons] at h; omega
theorem digits_eq (S : List UInt8) (ds r : List UInt8) (i k : Nat) (hS : S.drop i = ds ++ r) (hd : ∀ b ∈ ds, isD b = true) (hr : r = [] ∨ ∃ c t, r = c :: t ∧ isD c ≠ true) (hl : S.length ≤ 2000000) (hk : 2 * S.length + 2 ≤ k) :
    ∃ w : Nat, impl_digits.f k (bs S) (i : Int) = some ((w : Int), ((i + ds.length : Nat) : Int)) ∧ (ds.length ≤ 16 → w = val ds 0) := by
  have hz : ds.length ≤ S.length := by
    have := congrArg List.length hS
    rw [List.length_drop, List.length_append] at this
    omega
  obtain ⟨w, h1, h2⟩ := digits_loop S i ds i 0 (k - 2 - 2 * ds.length) r hS hd hr (by omega) hl (fun _ => by simp)
  refine ⟨w, ?_, fun h => h2 (by omega)⟩
  unfold impl_digits.f
  rw [← h1, show k - 2 - 2 * ds.length + 2 + 2 * ds.length = k by omega]
  rfl
theorem read_up : ∀ (d : Nat) (p sg x12 : Int) (n m x14 k : Nat), x14 + d = m → n * 10 ^ d ≤ 1000000000000000000 → m ≤ 100 →
    impl_ReadMoney.l0 (k + d + 1) p sg (n : Int) (m : Int) x12 (x14 : Int) = impl_ReadMoney.j6 k p sg (wrap64 (((n * 10 ^ d : Nat) : Int) + x12)) (m : Int) := by
  intro d
  induction d with
  | zero =>
    intro p sg x12 n m x14 k h1 h2 h3
    simp only [impl_ReadMoney.l0]
    rw [if_neg (by omega), Nat.pow_zero, Nat.mul_one]
  | succ d ih =>
    intro p sg x12 n m x14 k h1 h2 h3
    have e0 : n * 10 * 10 ^ d = n * 10 ^ (d + 1) := by rw [Nat.pow_succ, Nat.mul_assoc, Nat.mul_comm 10]
    have h4 : n * 10 ≤ n * 10 * 10 ^ d := Nat.le_mul_of_pos_right _ (Nat.pow_pos (by omega))
    have e1 : wrap64 ((x14 : Int) + 1) = ((x14 + 1 : Nat) : Int) := by rw [w64 (by omega) (by omega)]; omega
    have e2 : wrap64 ((n : Int) * 10) = ((n * 10 : Nat) : Int) := by rw [w64 (by omega) (by omega)]; omega
    rw [show k + (d + 1) + 1 = (k + d + 1) + 1 by omega]
    simp only [impl_ReadMoney.l0]
    rw [if_pos (by omega), e1, e2, ← e0]
    exact ih p sg x12 (n * 10) m (x14 + 1) k (by omega) (by omega) h3
/-- What the program says of a number found. -/
def said (neg : Bool) (n : Nat) : Int × Bool := if n ≤ 100000000000 ∧ ¬ (n = 0 ∧ neg = true) then ((if neg = true then -(n : Int) else (n : Int)), true) else (0, false)
def sgn (neg : Bool) : Int := if neg = true then -1 else 1
theorem read_end : ∀ (d : Nat) (neg : Bool) (n p x10 k : Nat), x10 + d = p → n * 10 ^ d ≤ 1000000000000000000 → p ≤ 100 →
    impl_ReadMoney.l1 (k + d + 1) (p : Int) (sgn neg) (n : Int) (x10 : Int) = some (said neg (n * 10 ^ d)) := by
  intro d
  induction d with
  | zero =>
    intro neg n p x10 k h1 h2 h3
    rw [Nat.pow_zero, Nat.mul_one] at h2
    simp only [impl_ReadMoney.l1]
    unfold said
    rw [if_neg (by omega), Nat.pow_zero, Nat.mul_one]
    by_cases hn : (n : Int) > 100000000000
    · rw [if_pos hn, if_neg (by omega)]
    · rw [if_neg hn]
      cases neg
      · have e : wrap64 (sgn false * (n : Int)) = (n : Int) := by unfold sgn; rw [if_neg (by simp), Int.one_mul, w64 (by omega) (by omega)]
        rw [e, if_pos (show n ≤ 100000000000 ∧ ¬ (n = 0 ∧ false = true) from ⟨by omega, fun h => by cases h.2⟩), if_neg (show ¬ (false = true) by simp)]
        have hs : ¬ sgn false < 0 := by decide
        rw [if_neg hs]
        split <;> rfl
      · have e : wrap64 (sgn true * (n : Int)) = -(n : Int) := by unfold sgn; rw [if_pos rfl, w64 (by omega) (by omega)]; omega
        have hs : sgn true < 0 := by decide
        rw [e, if_pos hs, if_pos (show true = true from rfl)]
        by_cases h0 : n = 0
        · rw [if_pos (by omega), if_neg (fun h => h.2 ⟨h0, rfl⟩)]
        · rw [if_neg (by omega), if_pos ⟨by omega, fun h => h0 h.1⟩]
  | succ d ih =>
    intro neg n p x10 k h1 h2 h3
    have e0 : n * 10 * 10 ^ d = n * 10 ^ (d + 1) := by rw [Nat.pow_succ, Nat.mul_assoc, Nat.mul_comm 10]
    have h4 : n * 10 ≤ n * 10 * 10 ^ d := Nat.le_mul_of_pos_right _ (Nat.pow_pos (by omega))
    have e1 : wrap64 ((x10 : Int) + 1) = ((x10 + 1 : Nat) : Int) := by rw [w64 (by omega) (by omega)]; omega
    have e2 : wrap64 ((n : Int) * 10) = ((n * 10 : Nat) : Int) := by rw [w64 (by omega) (by omega)]; omega
    rw [show k + (d + 1) + 1 = (k + d + 1) + 1 by omega]
    simp only [impl_ReadMoney.l1]
    rw [if_pos (by omega), e1, e2, ← e0]
    exact ih neg (n * 10) p (x10 + 1) k (by omega) (by omega) h3
theorem fin_bad (neg : Bool) (ds gs : List UInt8) (h : ¬ (dig (val ds 0) = ds ∧ ds.length ≤ 12)) : fin neg ds gs = (0, false) := by
  unfold fin
  rw [if_neg]
  rintro ⟨h1, h2, _⟩
  have := val_ge gs (val ds 0)
  exact h ⟨h1, dig_short ds h1 (by omega)⟩
theorem fin_said (neg : Bool) (ds gs : List UInt8) (h : dig (val ds 0) = ds) : fin neg ds gs = said neg (val gs (val ds 0)) := by
  unfold fin said
  by_cases hc : val gs (val ds 0) ≤ 100000000000 ∧ ¬ (val gs (val ds 0) = 0 ∧ neg = true)
  · rw [if_pos ⟨h, hc⟩, if_pos hc]
  · rw [if_neg (fun hh => hc hh.2), if_neg hc]
theorem j2_no (k : Nat) (s : ByteArray) (p g v e : Int) : impl_ReadMoney.j2 (k + 1) s p g v e true = some (0, false) := by simp only [impl_ReadMoney.j2]; rfl
theorem j3_no (k : Nat) (s : ByteArray) (p g v e : Int) : impl_ReadMoney.j3 (k + 1) s p g v e true = some (0, false) := by simp only [impl_ReadMoney.j3]; rfl
theorem j4_no (k : Nat) (p g v e x : Int) : impl_ReadMoney.j4 (k + 1) p g v e x true = some (0, false) := by simp only [impl_ReadMoney.j4]; rfl
theorem read_j1 (S ds r : List UInt8) (p : Int) (neg : Bool) (st k : Nat) (hS : S.drop st = ds ++ r) (hst : st ≤ S.length) (hd : ∀ b ∈ ds, isD b = true) (hr : r = [] ∨ ∃ c t, r = c :: t ∧ isD c ≠ true) (hl : S.length ≤ 2000000) (hk : 2 * S.length + 2 ≤ k) :
    impl_ReadMoney.j1 (k + 1) (bs S) p (sgn neg) (st : Int) = if dig (val ds 0) = ds ∧ ds.length ≤ 12 then impl_ReadMoney.j2 k (bs S) p (sgn neg) ((val ds 0 : Nat) : Int) ((st + ds.length : Nat) : Int) false else some (0, false) := by
  obtain ⟨k, rfl⟩ : ∃ q, k = q + 1 := ⟨k - 1, by omega⟩
  have hz : st + ds.length ≤ S.length := by
    have := congrArg List.length hS
    rw [List.length_drop, List.length_append] at this
    omega
  obtain ⟨w, h1, h2⟩ := digits_eq S ds r st (k + 1) hS hd hr hl hk
  simp only [impl_ReadMoney.j1]
  rw [h1, Option.bind_some]
  have e1 : wrap64 (((st + ds.length : Nat) : Int) - (st : Int)) = (ds.length : Int) := by rw [w64 (by omega) (by omega)]; omega
  dsimp only
  rw [e1]
  by_cases h0 : ds = []
  · subst h0
    rw [if_pos (by simp), j2_no, if_neg (fun h => dig_nil [] h.1 rfl)]
  · have hlen : ds.length ≠ 0 := fun h => h0 (List.length_eq_zero_iff.1 h)
    rw [if_neg (by omega)]
    by_cases h12 : ds.length ≤ 12
    · rw [if_neg (by omega), h2 (by omega)]
      obtain ⟨b, t, rfl⟩ : ∃ b t, ds = b :: t := by cases ds with
        | nil => exact absurd rfl h0
        | cons b t => exact ⟨b, t, rfl⟩
      obtain ⟨hi, hb, _⟩ := bt_drop S st b (t ++ r) hS
      by_cases h2' : ((b :: t).length : Int) > 1
      · have c0 : (st : Int) < ((bs S).size : Int) := by rw [bs_size]; omega
        have ht : t ≠ [] := by intro h; subst h; simp at h2'
        rw [if_pos h2', if_pos (by omega), if_pos c0, hb]
        by_cases h48 : b.toNat = 48
        · rw [show ((b.toNat : Int) == 48) = true by rw [h48]; rfl, j2_no, if_neg]
          exact fun h => dig_head b t hd h.1 ht h48
        · rw [show ((b.toNat : Int) == 48) = false by rw [beq_eq_false_iff_ne]; omega, if_pos]
          refine ⟨dig_val t.length (b :: t) rfl hd (.inr ?_), h12⟩
          intro b' t' he
          injection he with he _
          subst he; exact h48
      · rw [if_neg h2', if_pos]
        refine ⟨dig_val t.length (b :: t) rfl hd (.inl ?_), h12⟩
        rw [List.length_cons] at h2'; omega
    · rw [if_pos (by omega), j2_no, if_neg (fun h => h12 h.2)]
theorem read_whole (S : List UInt8) (p e v k : Nat) (neg : Bool) (he : e = S.length) (hv : v * 10 ^ p ≤ 1000000000000000000) (hp : p ≤ 6) : impl_ReadMoney.j2 (k + p + 3) (bs S) (p : Int) (sgn neg) (v : Int) (e : Int) false = some (said neg (v * 10 ^ p)) := by
  have h := read_end p neg v p 0 k (by omega) hv (by omega)
  simp only [impl_ReadMoney.j2]
  have c0 : ¬ (e : Int) < ((bs S).size : Int) := by rw [bs_size]; omega
  rw [if_neg (by simp), if_neg c0]
  simp only [impl_ReadMoney.j6]
  exact h
theorem read_other (S : List UInt8) (p e v k : Nat) (neg : Bool) (c : UInt8) (t : List UInt8) (hS : S.drop e = c :: t) (hc : c.toNat ≠ 46) : impl_ReadMoney.j2 (k + 2) (bs S) (p : Int) (sgn neg) (v : Int) (e : Int) false = some (0, false) := by
  obtain ⟨hi, hb, _⟩ := bt_drop S e c t hS
  have c0 : (e : Int) < ((bs S).size : Int) := by rw [bs_size]; omega
  simp only [impl_ReadMoney.j2]
  rw [if_neg (by simp), if_pos c0, if_pos (by omega), hb, if_neg (by omega), j3_no]
theorem read_j3 (s : ByteArray) (p e v m w k : Nat) (neg : Bool) (hs : s.size ≤ 2000000) (hm : e + 1 + m ≤ s.size) (h1 : impl_digits.f (k + 1) s ((e + 1 : Nat) : Int) = some ((w : Int), ((e + 1 + m : Nat) : Int))) :
    impl_ReadMoney.j3 (k + 2) s (p : Int) (sgn neg) (v : Int) (e : Int) false = if 1 ≤ m ∧ m ≤ p ∧ e + 1 + m = s.size then impl_ReadMoney.l0 k (p : Int) (sgn neg) (v : Int) (m : Int) (w : Int) 0 else some (0, false) := by
  have e0 : wrap64 ((e : Int) + 1) = ((e + 1 : Nat) : Int) := by rw [w64 (by omega) (by omega)]; omega
  have e1 : wrap64 (((e + 1 + m : Nat) : Int) - ((e + 1 : Nat) : Int)) = (m : Int) := by rw [w64 (by omega) (by omega)]; omega
  rw [impl_ReadMoney.j3, if_neg (by simp), e0, h1, Option.bind_some]
  clear h1
  dsimp only
  rw [e1]
  clear e1 e0
  by_cases hf1 : 1 ≤ m
  · rw [if_neg (by omega)]
    by_cases hfp : m ≤ p
    · rw [if_neg (by omega)]
      by_cases hr : e + 1 + m = s.size
      · rw [show (((e + 1 + m : Nat) : Int) != (s.size : Int)) = false by rw [hr]; simp, if_pos ⟨hf1, hfp, hr⟩, impl_ReadMoney.j4, if_neg (by simp)]
      · rw [show (((e + 1 + m : Nat) : Int) != (s.size : Int)) = true by rw [bne_iff_ne]; omega, j4_no, if_neg (fun h => hr h.2.2)]
    · rw [if_pos (by omega), j4_no, if_neg (by omega)]
  · rw [if_pos (by omega), j4_no, if_neg (by omega)]
theorem read_l0 (p v m w k : Nat) (neg : Bool) (hp : p ≤ 6) (hm : m ≤ p) (hv : v < 1000000000000) (hw : w < 10 ^ m) (hk : 30 ≤ k) : impl_ReadMoney.l0 k (p : Int) (sgn neg) (v : Int) (m : Int) (w : Int) 0 = some (said neg ((v * 10 ^ m + w) * 10 ^ (p - m))) := by
  have b0 : 10 ^ m * 10 ^ (p - m) = 10 ^ p := by rw [← Nat.pow_add]; congr 1; omega
  have b1 := Nat.mul_le_mul_right (10 ^ m) (show v + 1 ≤ 1000000000000 by omega)
  rw [Nat.add_mul, Nat.one_mul] at b1
  have b4 : 10 ^ p ≤ 1000000 := (show 10 ^ p ≤ 10 ^ 6 from Nat.pow_le_pow_right (by omega) hp)
  have b6 : 10 ^ m ≤ 1000000 := (show 10 ^ m ≤ 10 ^ 6 from Nat.pow_le_pow_right (by omega) (by omega))
  have b3 : (v * 10 ^ m + w) * 10 ^ (p - m) ≤ 1000000000000 * 10 ^ p := by
    rw [← b0, ← Nat.mul_assoc]; exact Nat.mul_le_mul_right _ (by omega)
  have b9 : (v * 10 ^ m + w) * 10 ^ (p - m) ≤ 1000000000000000000 := by omega
  have b8 : v * 10 ^ m ≤ 1000000000000000000 := by omega
  have hup := read_up m (p : Int) (sgn neg) (w : Int) v m 0 (k - m - 1) (by omega) b8 (by omega)
  rw [show ((0 : Nat) : Int) = 0 from rfl, show k - m - 1 + m + 1 = k by omega] at hup
  rw [hup]
  have e5 : wrap64 (((v * 10 ^ m : Nat) : Int) + (w : Int)) = ((v * 10 ^ m + w : Nat) : Int) := by
    rw [w64 (by omega) (by omega)]; omega
  rw [e5]
  have hend := read_end (p - m) neg (v * 10 ^ m + w) p m (k - m - 1 - 1 - (p - m) - 1) (by omega) b9 (by omega)
  rw [show k - m - 1 - 1 - (p - m) - 1 + (p - m) + 1 = k - m - 1 - 1 by omega] at hend
  rw [show k - m - 1 = (k - m - 1 - 1) + 1 by omega, impl_ReadMoney.j6]
  exact hend
theorem read_point (S fs r : List UInt8) (p e v k : Nat) (neg : Bool) (c : UInt8) (hS : S.drop e = c :: (fs ++ r)) (hc : c.toNat = 46) (hd : ∀ b ∈ fs, isD b = true) (hr : r = [] ∨ ∃ c t, r = c :: t ∧ isD c ≠ true) (hl : S.length ≤ 2000000) (hk : 2 * S.length + 40 ≤ k) (hv : v < 1000000000000) (hp : p ≤ 6) :
    impl_ReadMoney.j2 (k + 3) (bs S) (p : Int) (sgn neg) (v : Int) (e : Int) false = if 1 ≤ fs.length ∧ fs.length ≤ p ∧ r = [] then some (said neg (val (fs ++ List.replicate (p - fs.length) 48) v)) else some (0, false) := by
  obtain ⟨hi, hb, hS'⟩ := bt_drop S e c _ hS
  have c0 : (e : Int) < ((bs S).size : Int) := by rw [bs_size]; omega
  have hz : e + 1 + fs.length + r.length = S.length := by
    have := congrArg List.length hS'
    rw [List.length_drop, List.length_append] at this
    omega
  rw [impl_ReadMoney.j2, if_neg (by simp), if_pos c0, if_pos (Int.natCast_nonneg e), hb, if_pos (show (c.toNat : Int) = 46 by rw [hc]; rfl)]
  by_cases hp0 : p = 0
  · subst hp0
    rw [show (((0 : Nat) : Int) == 0) = true from rfl, j3_no, if_neg (by omega)]
  · obtain ⟨w, h1, h2⟩ := digits_eq S fs r (e + 1) (k + 1) hS' hd hr hl (by clear hS hS' hr hb hc; omega)
    rw [show ((p : Int) == 0) = false by rw [beq_eq_false_iff_ne]; omega, read_j3 (bs S) p e v fs.length w k neg (by rw [bs_size]; exact hl) (by rw [bs_size]; omega) h1]
    by_cases h : 1 ≤ fs.length ∧ fs.length ≤ p ∧ r = []
    · obtain ⟨q1, q2, q3⟩ := h
      have hw := val_lt fs hd
      have q4 : w = val fs 0 := h2 (by omega)
      rw [if_pos ⟨q1, q2, by rw [bs_size, ← hz, q3]; rfl⟩, if_pos ⟨q1, q2, q3⟩, q4, read_l0 p v fs.length (val fs 0) k neg hp q2 hv hw (by clear h1 h2 hS hS' hr hb hc; omega), ← val_shift fs v, val_app, val_zeros]
    · rw [if_neg h, if_neg]
      rintro ⟨q1, q2, q3⟩
      refine h ⟨q1, q2, ?_⟩
      rw [bs_size] at q3
      exact List.length_eq_zero_iff.1 (by omega)
/-- What a text says behind its sign. -/
inductive Told (p : Nat) (neg : Bool) : List UInt8 → Int × Bool → Prop
  | whole (ds : List UInt8) (hd : ∀ b ∈ ds, isD b = true) : Told p neg ds (fin neg ds (List.replicate p 48))
  | point (ds : List UInt8) (c : UInt8) (fs : List UInt8) (hd : ∀ b ∈ ds, isD b = true) (hc : c.toNat = 46) (hf : ∀ b ∈ fs, isD b = true) (h1 : 1 ≤ fs.length) (h2 : fs.length ≤ p) : Told p neg (ds ++ c :: fs) (fin neg ds (fs ++ List.replicate (p - fs.length) 48))
  | badF (ds : List UInt8) (c : UInt8) (fs r : List UInt8) (hd : ∀ b ∈ ds, isD b = true) (hc : c.toNat = 46) (hf : ∀ b ∈ fs, isD b = true) (hr : r = [] ∨ ∃ c t, r = c :: t ∧ isD c ≠ true) (h : ¬ (1 ≤ fs.length ∧ fs.length ≤ p ∧ r = [])) : Told p neg (ds ++ c :: (fs ++ r)) (0, false)
  | badD (ds : List UInt8) (c : UInt8) (t : List UInt8) (hd : ∀ b ∈ ds, isD b = true) (hc : c.toNat ≠ 46) (hn : isD c ≠ true) : Told p neg (ds ++ c :: t) (0, false)
theorem told_all (p : Nat) (neg : Bool) (l : List UInt8) : ∃ r, Told p neg l r := by
  obtain ⟨ds, r, rfl, hd, hr⟩ := digits_split l
  rcases hr with rfl | ⟨c, t, rfl, hc⟩
  · rw [List.append_nil]; exact ⟨_, .whole ds hd⟩
  · by_cases h46 : c.toNat = 46
    · obtain ⟨fs, r, rfl, hf, hr⟩ := digits_split t
      by_cases h : 1 ≤ fs.length ∧ fs.length ≤ p ∧ r = []
      · obtain ⟨h1, h2, rfl⟩ := h
        rw [List.append_nil]; exact ⟨_, .point ds c fs hd h46 hf h1 h2⟩
      · exact ⟨_, .badF ds c fs r hd h46 hf hr h⟩
    · exact ⟨_, .badD ds c t hd h46 hc⟩
theorem bound_val (ds : List UInt8) (hd : ∀ b ∈ ds, isD b = true) (h : ds.length ≤ 12) : val ds 0 < 1000000000000 := by
  have h1 := val_lt ds hd
  have h2 : 10 ^ ds.length ≤ 1000000000000 := (show 10 ^ ds.length ≤ 10 ^ 12 from Nat.pow_le_pow_right (by omega) h)
  omega
theorem told_impl (p : Nat) (hp : p ≤ 6) (neg : Bool) (S l : List UInt8) (st : Nat) (hS : S.drop st = l) (hst : st ≤ S.length) (R : Int × Bool) (hR : Told p neg l R) (hl : S.length ≤ 2000000) (k : Nat) (hk : 2 * S.length + 50 ≤ k) :
    impl_ReadMoney.j1 (k + 1) (bs S) (p : Int) (sgn neg) (st : Int) = some R := by
  have b4 : 10 ^ p ≤ 1000000 := (show 10 ^ p ≤ 10 ^ 6 from Nat.pow_le_pow_right (by omega) hp)
  cases hR with
  | whole _ hd =>
    have hz : st + l.length = S.length := by
      have := congrArg List.length hS
      rw [List.length_drop] at this
      omega
    rw [read_j1 S l [] p neg st k (by rw [hS, List.append_nil]) hst hd (.inl rfl) hl (by omega)]
    by_cases h : dig (val l 0) = l ∧ l.length ≤ 12
    · have hb := bound_val l hd h.2
      have b3 : val l 0 * 10 ^ p ≤ 1000000000000 * 10 ^ p := Nat.mul_le_mul_right _ (by omega)
      have b5 : 1000000000000 * 10 ^ p ≤ 1000000000000000000 := (show 1000000000000 * 10 ^ p ≤ 1000000000000 * 1000000 from Nat.mul_le_mul_left _ b4)
      rw [if_pos h, fin_said _ _ _ h.1, val_zeros, show k = (k - p - 3) + p + 3 by omega]
      exact read_whole S p _ _ _ neg hz (by omega) hp
    · rw [if_neg h, fin_bad _ _ _ h]
  | point ds c fs hd hc hf h1 h2 =>
    have hS2 : S.drop (st + ds.length) = c :: (fs ++ []) := by rw [← List.drop_drop, hS, List.drop_left, List.append_nil]
    have hn : isD c ≠ true := by rw [Ne, isD_iff]; omega
    rw [read_j1 S ds (c :: fs) p neg st k hS hst hd (.inr ⟨c, fs, rfl, hn⟩) hl (by omega)]
    by_cases h : dig (val ds 0) = ds ∧ ds.length ≤ 12
    · have hb := bound_val ds hd h.2
      obtain ⟨k, rfl⟩ : ∃ q, k = q + 3 := ⟨k - 3, by omega⟩
      rw [if_pos h, fin_said _ _ _ h.1, read_point S fs [] p (st + ds.length) (val ds 0) k neg c hS2 hc hf (.inl rfl) hl (by omega) hb hp, if_pos ⟨h1, h2, rfl⟩]
    · rw [if_neg h, fin_bad _ _ _ h]
  | badF ds c fs r hd hc hf hr hno =>
    have hS2 : S.drop (st + ds.length) = c :: (fs ++ r) := by rw [← List.drop_drop, hS, List.drop_left]
    have hn : isD c ≠ true := by rw [Ne, isD_iff]; omega
    rw [read_j1 S ds (c :: (fs ++ r)) p neg st k hS hst hd (.inr ⟨c, _, rfl, hn⟩) hl (by omega)]
    by_cases h : dig (val ds 0) = ds ∧ ds.length ≤ 12
    · have hb := bound_val ds hd h.2
      obtain ⟨k, rfl⟩ : ∃ q, k = q + 3 := ⟨k - 3, by omega⟩
      rw [if_pos h, read_point S fs r p (st + ds.length) (val ds 0) k neg c hS2 hc hf hr hl (by omega) hb hp, if_neg hno]
    · rw [if_neg h]
  | badD ds c t hd hc hn =>
    have hS2 : S.drop (st + ds.length) = c :: t := by rw [← List.drop_drop, hS, List.drop_left]
    rw [read_j1 S ds (c :: t) p neg st k hS hst hd (.inr ⟨c, _, rfl, hn⟩) hl (by omega)]
    by_cases h : dig (val ds 0) = ds ∧ ds.length ≤ 12
    · obtain ⟨k, rfl⟩ : ∃ q, k = q + 2 := ⟨k - 2, by omega⟩
      rw [if_pos h, read_other S p (st + ds.length) (val ds 0) k neg c t hS2 hc]
    · rw [if_neg h]
def negOf (S : List UInt8) : Bool := match S with
  | [] => false
  | b :: _ => b.toNat == 45
def bodyOf (S : List UInt8) : List UInt8 := if negOf S = true then S.drop 1 else S
theorem read_impl (p : Nat) (hp : p ≤ 6) (S : List UInt8) (R : Int × Bool) (hR : Told p (negOf S) (bodyOf S) R) (hl : S.length ≤ 2000000) (k : Nat) (hk : 2 * S.length + 60 ≤ k) : impl_ReadMoney.f k (bs S) (p : Int) = some R := by
  obtain ⟨k, rfl⟩ : ∃ q, k = q + 2 := ⟨k - 2, by omega⟩
  unfold impl_ReadMoney.f
  rw [between_eq, Option.bind_some, if_pos (decide_eq_true (by omega))]
  have tail : impl_ReadMoney.j0 (k + 2) (bs S) (p : Int) 1 0 (negOf S) = some R := by
    unfold bodyOf at hR
    cases hn : negOf S
    · rw [hn, if_neg (by simp)] at hR
      have h := told_impl p hp false S S 0 rfl (by omega) R hR hl k (by omega)
      simp only [impl_ReadMoney.j0]
      exact h
    · rw [hn, if_pos rfl] at hR
      have hst : 1 ≤ S.length := by
        cases S with
        | nil => simp [negOf] at hn
        | cons b t => simp
      have h := told_impl p hp true S _ 1 rfl hst R hR hl k (by omega)
      simp only [impl_ReadMoney.j0]
      exact h
  cases S with
  | nil =>
    have c0 : ¬ ((bs []).size : Int) > 0 := by decide
    rw [if_neg c0]
    exact tail
  | cons b t =>
    have c0 : ((bs (b :: t)).size : Int) > 0 := by rw [bs_size, List.length_cons]; omega
    obtain ⟨_, hb, _⟩ := bt_drop (b :: t) 0 b t rfl
    rw [if_pos c0, if_pos c0, show (0 : Int) = ((0 : Nat) : Int) from rfl, hb]
    have e : ((b.toNat : Int) == 45) = (b.toNat == 45) := by
      rw [Bool.eq_iff_iff, beq_iff_eq, beq_iff_eq]; omega
    rw [e]
    exact tail

theorem and255 (n : Int) : 0 ≤ Go.bits .and .i64 n 255 ∧ Go.bits .and .i64 n 255 ≤ 255 := by
  have h : Go.bits .and .i64 n 255 = IntKind.i64.wrap ((BitVec.ofInt 64 n &&& BitVec.ofInt 64 255).toNat : Int) := rfl
  have hb : (BitVec.ofInt 64 n &&& BitVec.ofInt 64 255).toNat ≤ 255 := by
    rw [BitVec.toNat_and]
    exact Nat.le_trans Nat.and_le_right (by decide)
  rw [h]
  generalize (BitVec.ofInt 64 n &&& BitVec.ofInt 64 255).toNat = m at hb
  have : IntKind.i64.wrap (m : Int) = (m : Int) := by
    rw [IntKind.wrap_i64]; omega
  rw [this]
  omega
theorem new_ok (L : List Int) : ∀ (d i : Nat) (s : Int) (k : Nat), i + d = 4000 → d < k → ∃ t, spec_l1New.l0 k L s (i : Int) = some (L, 0, t) := by
  intro d
  induction d with
  | zero =>
    intro i s k hi hk
    obtain ⟨k, rfl⟩ : ∃ q, k = q + 1 := ⟨k - 1, by omega⟩
    refine ⟨s, ?_⟩
    rw [spec_l1New.l0, if_neg (show ¬ (i : Int) < 4000 by omega)]
    split <;> rfl
  | succ d ih =>
    intro i s k hi hk
    obtain ⟨k, rfl⟩ : ∃ q, k = q + 1 := ⟨k - 1, by omega⟩
    rw [spec_l1New.l0]
    by_cases h : (i : Int) < (L.length : Int)
    · have e : wrap64 ((i : Int) + 1) = ((i + 1 : Nat) : Int) := by rw [w64 (by omega) (by omega)]; omega
      rw [if_pos h, if_pos (show (i : Int) < 4000 by omega), if_pos (Int.natCast_nonneg i), e]
      exact ih (i + 1) _ k (by omega) (by omega)
    · exact ⟨s, by rw [if_neg h]⟩
theorem l1New_ok (L : List Int) (k : Nat) (hk : 4001 ≤ k) : ∃ t, spec_l1New.f k L = some (L, 0, t) := by
  unfold spec_l1New.f
  exact new_ok L 4000 0 _ k (by omega) (by omega)
theorem byte_ok (L : List Int) (i s : Int) (hL : L.length ≤ maxLen) (h0 : 0 ≤ i) (hi : i ≤ L.length) : ∃ v j t, spec_l1Byte.f L i s = some (v, j, t) ∧ 0 ≤ v ∧ v ≤ 255 ∧ 0 ≤ j ∧ j ≤ L.length := by
  have hm : maxLen ≤ 9223372036854775807 := by rw [maxLen_eq]; omega
  unfold spec_l1Byte.f
  by_cases h : i < (L.length : Int)
  · have e : wrap64 (i + 1) = i + 1 := w64 (by omega) (by omega)
    rw [if_pos h, if_pos h0, e]
    exact ⟨_, _, _, rfl, (and255 _).1, (and255 _).2, by omega, by omega⟩
  · rw [if_neg h]
    exact ⟨_, _, _, rfl, (and255 _).1, (and255 _).2, by omega, by omega⟩
theorem below_ok (L : List Int) (i s n : Int) (hL : L.length ≤ maxLen) (h0 : 0 ≤ i) (hi : i ≤ L.length) : ∃ v j t, spec_l1Below.f L i s n = some (v, j, t) ∧ 0 ≤ v ∧ (0 < n → v < n) ∧ 0 ≤ j ∧ j ≤ L.length := by
  unfold spec_l1Below.f
  by_cases hn : n ≤ 0
  · rw [if_pos hn]
    exact ⟨_, _, _, rfl, by omega, fun h => by omega, h0, hi⟩
  · rw [if_neg hn]
    have tm : ∀ z : Int, 0 ≤ z → 0 ≤ Int.tmod z n ∧ Int.tmod z n < n := by
      intro z hz
      rw [Int.tmod_eq_emod_of_nonneg hz]
      exact ⟨Int.emod_nonneg _ (by omega), Int.emod_lt_of_pos _ (by omega)⟩
    by_cases h2 : n ≤ 256
    · obtain ⟨v, j, t, e, v0, v1, j0, j1⟩ := byte_ok L i s hL h0 hi
      rw [if_pos h2, e, Option.bind_some, if_neg (by omega)]
      exact ⟨_, _, _, rfl, (tm v v0).1, fun _ => (tm v v0).2, j0, j1⟩
    · obtain ⟨v, j, t, e, v0, v1, j0, j1⟩ := byte_ok L i s hL h0 hi
      obtain ⟨v', j', t', e', v0', v1', j0', j1'⟩ := byte_ok L j t hL j0 j1
      obtain ⟨v2, j2, t2, e2, v02, v12, j02, j12⟩ := byte_ok L j' t' hL j0' j1'
      obtain ⟨v3, j3, t3, e3, v03, v13, j03, j13⟩ := byte_ok L j2 t2 hL j02 j12
      rw [if_neg h2, e, Option.bind_some]
      dsimp only
      rw [e', Option.bind_some]
      dsimp only
      rw [e2, Option.bind_some]
      dsimp only
      rw [e3, Option.bind_some, if_neg (by omega)]
      dsimp only
      have w : wrap64 (wrap64 (wrap64 (wrap64 (v * 16777216) + wrap64 (v' * 65536)) + wrap64 (v2 * 256)) + v3) = v * 16777216 + v' * 65536 + v2 * 256 + v3 := by
        rw [w64 (x := v * 16777216) (by omega) (by omega), w64 (x := v' * 65536) (by omega) (by omega), w64 (x := v2 * 256) (by omega) (by omega), w64 (x := v * 16777216 + v' * 65536) (by omega) (by omega), w64 (x := v * 16777216 + v' * 65536 + v2 * 256) (by omega) (by omega), w64 (by omega) (by omega)]
      rw [w]
      have tz := tm (v * 16777216 + v' * 65536 + v2 * 256 + v3) (by omega)
      exact ⟨_, _, _, rfl, tz.1, fun _ => tz.2, j03, j13⟩

theorem once_ok (L : List Int) (i s n : Int) (hL : L.length ≤ maxLen) (h0 : 0 ≤ i) (hi : i ≤ L.length) : ∃ (b : Bool) (j t : Int), spec_l1Once.f L i s n = some (b, j, t) ∧ 0 ≤ j ∧ j ≤ L.length := by
  unfold spec_l1Once.f
  obtain ⟨v, j, t, e, _, _, j0, j1⟩ := below_ok L i s n hL h0 hi
  rw [e, Option.bind_some]
  exact ⟨_, _, _, rfl, j0, j1⟩

theorem rd_mem (l : List Int) (v : Int) (h0 : 0 ≤ v) (h1 : v < (l.length : Int)) : rd l v ∈ l := by
  obtain ⟨n, rfl⟩ : ∃ n : Nat, v = n := ⟨v.toNat, by omega⟩
  have hn : n < l.length := by omega
  have : rd l (n : Int) = l[n]'hn := by
    unfold rd
    simp [hn]
  rw [this]
  exact List.getElem_mem hn
theorem pickInt_ok (L l : List Int) (i s : Int) (hL : L.length ≤ maxLen) (h0 : 0 ≤ i) (hi : i ≤ L.length) (hl : 0 < l.length) : ∃ v j t, spec_l1PickInt.f L i s l = some (v, j, t) ∧ v ∈ l ∧ 0 ≤ j ∧ j ≤ L.length := by
  unfold spec_l1PickInt.f
  obtain ⟨v, j, t, e, v0, v1, j0, j1⟩ := below_ok L i s (l.length : Int) hL h0 hi
  have v2 := v1 (by omega)
  rw [e, Option.bind_some]
  dsimp only
  rw [if_pos v0, if_pos v2]
  exact ⟨_, _, _, rfl, rd_mem l v v0 v2, j0, j1⟩

theorem spoil_ok (L l : List Int) (i s a : Int) (hL : L.length ≤ maxLen) (h0 : 0 ≤ i) (hi : i ≤ L.length) (hl : 0 < l.length) : ∃ v j t, spec_l1Spoil.f L i s a l = some (v, j, t) ∧ (v = a ∨ v ∈ l) ∧ 0 ≤ j ∧ j ≤ L.length := by
  unfold spec_l1Spoil.f
  obtain ⟨b, j, t, e, j0, j1⟩ := once_ok L i s 40 hL h0 hi
  rw [e, Option.bind_some]
  dsimp only
  cases b
  · rw [if_neg (by simp)]
    exact ⟨_, _, _, rfl, .inl rfl, j0, j1⟩
  · rw [if_pos rfl]
    obtain ⟨v, j', t', e', hv, j0', j1'⟩ := pickInt_ok L l j t hL j0 j1 hl
    rw [e', Option.bind_some]
    exact ⟨_, _, _, rfl, .inr hv, j0', j1'⟩

theorem drawAmount_ok (L : List Int) (i s : Int) (hL : L.length ≤ maxLen) (h0 : 0 ≤ i) (hi : i ≤ L.length) : ∃ v j t, spec_l1DrawAmount.f L i s = some (v, j, t) ∧ (-100000000000 ≤ v ∧ v ≤ 100000000000) ∧ 0 ≤ j ∧ j ≤ L.length := by
  unfold spec_l1DrawAmount.f
  obtain ⟨v, j, t, e, _, _, j0, j1⟩ := below_ok L i s 12 hL h0 hi
  rw [e, Option.bind_some]
  dsimp only
  split
  · obtain ⟨v', j', t', e', hv, j0', j1'⟩ := pickInt_ok L [0, 1, (-1), 100000000000, (-100000000000), 99999999999, 99, 100, 101] j t hL j0 j1 (by simp)
    rw [e', Option.bind_some]
    refine ⟨_, _, _, rfl, ?_, j0', j1'⟩
    simp only [List.mem_cons, List.not_mem_nil, or_false] at hv
    dsimp only
    omega
  · split
    · obtain ⟨v', j', t', e', v0, v1, j0', j1'⟩ := below_ok L j t 100000000000 hL j0 j1
      rw [e', Option.bind_some]
      exact ⟨_, _, _, rfl, ⟨by dsimp only; omega, by have := v1 (by omega); dsimp only; omega⟩, j0', j1'⟩
    · split
      · obtain ⟨v', j', t', e', v0, v1, j0', j1'⟩ := below_ok L j t 1000000 hL j0 j1
        rw [e', Option.bind_some]
        have := v1 (by omega)
        refine ⟨_, _, _, rfl, ?_, j0', j1'⟩
        dsimp only
        rw [w64 (by omega) (by omega)]
        omega
      · obtain ⟨v', j', t', e', v0, v1, j0', j1'⟩ := below_ok L j t 100000 hL j0 j1
        rw [e', Option.bind_some]
        exact ⟨_, _, _, rfl, ⟨by dsimp only; omega, by have := v1 (by omega); dsimp only; omega⟩, j0', j1'⟩
theorem drawShow_ok (L : List Int) (hL : L.length ≤ maxLen) (k : Nat) (hk : 4001 ≤ k) : ∃ a p, spec_DrawShowMoney.f k L = some (a, p) ∧ (-9223372036854775808 ≤ a ∧ a ≤ 9223372036854775807) := by
  unfold spec_DrawShowMoney.f
  obtain ⟨t, e⟩ := l1New_ok L k hk
  rw [e, Option.bind_some]
  dsimp only
  obtain ⟨v, j, t, e, hv, j0, j1⟩ := drawAmount_ok L 0 t hL (by omega) (by omega)
  rw [e, Option.bind_some]
  dsimp only
  unfold spec_l1BadMoney.f
  obtain ⟨v', j', t', e', hv', j0', j1'⟩ := spoil_ok L [100000000001, (-100000000001), 9223372036854775807, (-9223372036854775808)] j t v hL j0 j1 (by simp)
  rw [e', Option.bind_some, Option.bind_some]
  dsimp only
  obtain ⟨v2, j2, t2, e2, _, _, j02, j12⟩ := below_ok L j' t' 7 hL j0' j1'
  rw [e2, Option.bind_some]
  dsimp only
  obtain ⟨v3, j3, t3, e3, _, j03, j13⟩ := spoil_ok L [(-1), 7] j2 t2 v2 hL j02 j12 (by simp)
  rw [e3, Option.bind_some]
  refine ⟨_, _, rfl, ?_⟩
  rcases hv' with rfl | hv'
  · omega
  · simp only [List.mem_cons, List.not_mem_nil, or_false] at hv'
    omega

theorem isD_dg (m : Nat) (h : m < 10) : isD (dg m) = true := by
  rcases (by omega : m = 0 ∨ m = 1 ∨ m = 2 ∨ m = 3 ∨ m = 4 ∨ m = 5 ∨ m = 6 ∨ m = 7 ∨ m = 8 ∨ m = 9) with rfl | rfl | rfl | rfl | rfl | rfl | rfl | rfl | rfl | rfl <;> rfl
theorem dg_sub (m : Nat) (h : m < 10) : (dg m).toNat - 48 = m := by
  rcases (by omega : m = 0 ∨ m = 1 ∨ m = 2 ∨ m = 3 ∨ m = 4 ∨ m = 5 ∨ m = 6 ∨ m = 7 ∨ m = 8 ∨ m = 9) with rfl | rfl | rfl | rfl | rfl | rfl | rfl | rfl | rfl | rfl <;> rfl
theorem dig_all (n : Nat) : (∀ b ∈ dig n, isD b = true) ∧ val (dig n) 0 = n := by
  by_cases h : n < 10
  · rw [dig_lt n h]
    refine ⟨fun b hb => ?_, ?_⟩
    · rw [List.mem_singleton] at hb; subst hb; exact isD_dg n h
    · show 0 * 10 + ((dg n).toNat - 48) = n
      rw [dg_sub n h]; omega
  · have ih := dig_all (n / 10)
    rw [dig_ge n h]
    refine ⟨fun b hb => ?_, ?_⟩
    · rcases List.mem_append.1 hb with hb | hb
      · exact ih.1 b hb
      · rw [List.mem_singleton] at hb; subst hb; exact isD_dg _ (by omega)
    · rw [val_app, ih.2]
      show n / 10 * 10 + ((dg (n % 10)).toNat - 48) = n
      rw [dg_sub _ (by omega)]; omega
termination_by n
theorem fx_all : ∀ (p n : Nat), (∀ b ∈ fx p n, isD b = true) ∧ val (fx p n) 0 = n % 10 ^ p := by
  intro p
  induction p with
  | zero => intro n; exact ⟨(fun b hb => by cases hb), by simp [fx, val, Nat.mod_one]⟩
  | succ p ih =>
    intro n
    have h := ih (n / 10)
    show (∀ b ∈ fx p (n / 10) ++ [dg (n % 10)], isD b = true) ∧ val (fx p (n / 10) ++ [dg (n % 10)]) 0 = _
    refine ⟨fun b hb => ?_, ?_⟩
    · rcases List.mem_append.1 hb with hb | hb
      · exact h.1 b hb
      · rw [List.mem_singleton] at hb; subst hb; exact isD_dg _ (by omega)
    · rw [val_app, h.2]
      show n / 10 % 10 ^ p * 10 + ((dg (n % 10)).toNat - 48) = _
      rw [dg_sub _ (by omega), Nat.pow_succ, Nat.mul_comm (10 ^ p) 10, Nat.mod_mul]
      omega
theorem told_showN (n p : Nat) (neg : Bool) (hn : n ≤ 100000000000) (h0 : ¬ (n = 0 ∧ neg = true)) : Told p neg (showN n p) ((if neg = true then -(n : Int) else (n : Int)), true) := by
  by_cases hp : p = 0
  · subst hp
    have hd := dig_all n
    have h := Told.whole (p := 0) (neg := neg) (dig n) hd.1
    have e : fin neg (dig n) (List.replicate 0 48) = ((if neg = true then -(n : Int) else (n : Int)), true) := by
      unfold fin
      show (if dig (val (dig n) 0) = dig n ∧ val (dig n) 0 ≤ _ ∧ ¬ (val (dig n) 0 = 0 ∧ neg = true) then ((if neg = true then -((val (dig n) 0 : Nat) : Int) else ((val (dig n) 0 : Nat) : Int)), true) else (0, false)) = _
      rw [hd.2, if_pos ⟨rfl, hn, h0⟩]
    rw [e] at h
    unfold showN
    rw [if_pos rfl]
    exact h
  · have hd := dig_all (n / 10 ^ p)
    have hf := fx_all p n
    have hl : (fx p n).length = p := fx_len p n
    have h := Told.point (p := p) (neg := neg) (dig (n / 10 ^ p)) 46 (fx p n) hd.1 rfl hf.1 (by omega) (by omega)
    have hv : val (fx p n) (val (dig (n / 10 ^ p)) 0) = n := by
      rw [val_shift, hd.2, hl, hf.2, Nat.mul_comm]
      exact Nat.div_add_mod n (10 ^ p)
    have e : fin neg (dig (n / 10 ^ p)) (fx p n ++ List.replicate (p - (fx p n).length) 48) = ((if neg = true then -(n : Int) else (n : Int)), true) := by
      rw [hl, Nat.sub_self, List.replicate_zero, List.append_nil]
      unfold fin
      rw [hv, hd.2, if_pos ⟨rfl, hn, h0⟩]
    rw [e] at h
    unfold showN
    rw [if_neg hp]
    exact h
theorem showN_head (n p : Nat) : negOf (showN n p) = false ∧ showN n p ≠ [] := by
  have hd : ∀ m t, negOf (dig m ++ t) = false ∧ dig m ++ t ≠ [] := by
    intro m t
    have h1 := (dig_all m).1
    have h2 := (dig_len (m + 1) m (by
      have := Nat.lt_pow_self (show 1 < 10 by omega) (n := m + 1); omega)).1
    cases hm : dig m with
    | nil => rw [hm] at h2; simp at h2
    | cons b l =>
      have h3 := (isD_iff b).1 (h1 b (by rw [hm]; simp))
      refine ⟨?_, by simp⟩
      show (b.toNat == 45) = false
      rw [beq_eq_false_iff_ne]; omega
  unfold showN
  split
  · have := hd n []; rwa [List.append_nil] at this
  · exact hd _ _
theorem showN_len (n p : Nat) (hn : n ≤ 100000000000) (hp : p ≤ 6) : (showN n p).length ≤ 30 := by
  unfold showN
  have h3 := dig_len12 n hn
  have h4 := dig_len12 (n / 10 ^ p) (Nat.le_trans (Nat.div_le_self _ _) hn)
  split
  · omega
  · rw [List.length_append, List.length_cons, fx_len]; omega
theorem back (a : Int) (p : Nat) (hp : p ≤ 6) (k : Nat) (hk : 300 ≤ k) : impl_ReadMoney.f k (showM a p) (p : Int) = some (if -100000000000 ≤ a ∧ a ≤ 100000000000 then (a, true) else (0, false)) := by
  unfold showM
  by_cases h : -100000000000 ≤ a ∧ a ≤ 100000000000
  · rw [if_pos ⟨h, by omega, by omega⟩, if_pos h]
    by_cases hn : a < 0
    · obtain ⟨n, rfl⟩ : ∃ n : Nat, a = -(n : Int) := ⟨(-a).toNat, by omega⟩
      have hl := showN_len n p (by omega) hp
      rw [if_pos hn, Int.toNat_natCast, show (-(-(n : Int))).toNat = n by omega]
      have ht := told_showN n p true (by omega) (by omega)
      rw [if_pos rfl] at ht
      exact read_impl p hp (45 :: showN n p) _ ht (by rw [List.length_cons]; omega) k (by rw [List.length_cons]; omega)
    · obtain ⟨n, rfl⟩ : ∃ n : Nat, a = n := ⟨a.toNat, by omega⟩
      have hl := showN_len n p (by omega) hp
      rw [if_neg hn, Int.toNat_natCast, Int.toNat_natCast]
      have ht := told_showN n p false (by omega) (by simp)
      rw [if_neg (by simp)] at ht
      have hh := (showN_head n p).1
      refine read_impl p hp (showN n p) _ ?_ (by omega) k (by omega)
      unfold bodyOf
      rw [hh, if_neg (by simp)]
      exact ht
  · rw [if_neg (fun hh => h hh.1), if_neg h]
    refine read_impl p hp [] _ ?_ (by simp) k (by simp; omega)
    have ht := Told.whole (p := p) (neg := false) [] (by simp)
    rwa [fin_bad _ _ _ (fun hh => dig_nil [] hh.1 rfl)] at ht
theorem back_loop (a : Int) (ha : -9223372036854775808 ≤ a ∧ a ≤ 9223372036854775807) : ∀ (d p k : Nat), p + d = 7 → 400 + d < k → laws_FnMoneyBack.l0 k a (p : Int) = some true := by
  intro d
  induction d with
  | zero =>
    intro p k h1 h2
    obtain ⟨k, rfl⟩ : ∃ q, k = q + 1 := ⟨k - 1, by omega⟩
    rw [laws_FnMoneyBack.l0, if_neg (by omega), moneyImpl (-5) 2 (by omega) k (by omega), Option.bind_some]
    have e : showM (-5) 2 = bs [45, 48, 46, 48, 53] := by decide
    rw [e, bs_toList]
    rfl
  | succ d ih =>
    intro p k h1 h2
    obtain ⟨k, rfl⟩ : ∃ q, k = q + 1 := ⟨k - 1, by omega⟩
    have e1 : wrap64 ((p : Int) + 1) = ((p + 1 : Nat) : Int) := by rw [w64 (by omega) (by omega)]; omega
    rw [laws_FnMoneyBack.l0, if_pos (by omega), moneyImpl a p ha k (by omega), Option.bind_some, back a p (by omega) k (by omega), Option.bind_some, e1]
    unfold laws_abs.f
    have hn := ih (p + 1) k (by omega) (by omega)
    by_cases h : -100000000000 ≤ a ∧ a ≤ 100000000000
    · rw [if_pos h]
      dsimp only
      have e2 : (if a < 0 then some (wrap64 (-a)) else some a) = some (if a < 0 then -a else a) := by
        split
        · rw [w64 (by omega) (by omega)]
        · rfl
      rw [e2, Option.bind_some, if_pos (by split <;> omega), decide_eq_true (show a > -4611686018427387904 by omega), if_neg (by simp), if_pos rfl, if_pos rfl]
      exact hn
    · rw [if_neg h]
      dsimp only
      by_cases hm : a = -9223372036854775808
      · subst hm
        rw [if_pos (by decide), Option.bind_some, if_pos (by unfold wrap64; omega), if_neg (by decide), if_neg (by decide)]
        exact hn
      · have e2 : (if a < 0 then some (wrap64 (-a)) else some a) = some (if a < 0 then -a else a) := by
          split
          · rw [w64 (by omega) (by omega)]
          · rfl
        rw [e2, Option.bind_some, if_neg (by split <;> omega), if_neg (by decide), if_neg (by decide)]
        exact hn
theorem FnMoneyBack : laws_FnMoneyBack.Pure := by
  intro L hL _ _
  refine ⟨5000, ?_⟩
  unfold laws_FnMoneyBack.f laws_big.f
  rw [Option.bind_some]
  by_cases hb : ((L.length : Nat) : Int) > 1048576
  · rw [if_pos (decide_eq_true hb)]
  · rw [if_neg (by rw [decide_eq_true_eq]; exact hb)]
    obtain ⟨a, p, e, ha⟩ := drawShow_ok L hL 5000 (by omega)
    rw [e, Option.bind_some]
    exact back_loop a ha 7 0 5000 (by omega) (by omega)

end Go.Proofs.Ytegkhdobjcdfnaf.Pure
