/- The program's Shares answers as the reference's at every total and all weights; what is handed in reads as before, and what is handed back is new memory. Conditions: none. -/
import Derived.Test.YtdnfagcnojnmiaaPFnExactSharesx0
import Derived.Test.YtdnfagcnojnmiaaPFnExactSharesx1
import Derived.Test.YtdnfagcnojnmiaaPFnExactSharesx2
import Derived.Test.YtdnfagcnojnmiaaPFnExactSharesx3
import Derived.Test.YtdnfagcnojnmiaaPFnExactSharesx4
import Derived.Test.YtdnfagcnojnmiaaPFnExactSharesx5
import Derived.Test.YtdnfagcnojnmiaaPFnExactSharesx6
import Derived.Test.YtdnfagcnojnmiaaPureAid
import Derived.Test.YtdnfagcnojnmiaaWMore
namespace Go.Proofs.Ytdnfagcnojnmiaa.Pure
open Go Go.RowKit Go.Proofs.Ytdnfagcnojnmiaa.PFnExactShares Go.Proofs.YtdnfagcnojnmiaaW.PrintWords Go.Proofs.YtdnfagcnojnmiaaW.PrintLast Go.Proofs.Ytdnfagcnojnmiaa.Aid
set_option linter.unusedVariables false
set_option linter.unusedSimpArgs false
set_option maxRecDepth 100000
theorem toIntS_eq (l : List Int) (hl : l.length ≤ 35184372088832) (k : Nat) (hk : l.length < k) : laws_toIntS.f k l = some l := by
  unfold laws_toIntS.f
  rw [if_pos (by omega), if_pos (by omega)]
  have h := loop_fill0 (fun k acc i => laws_toIntS.l0 k l acc i) l id 0 ?_ ?_ k (by omega) (List.replicate ((l.length : Int) : Int).toNat 0) (by simp)
  · rw [List.map_id] at h; exact h
  · intro k acc i x _ hi ha hx
    simp only [laws_toIntS.l0]
    rw [if_pos (by omega), if_pos (by omega), if_pos (by omega), w64i hi (by omega)]
    unfold rd
    rw [getD_of hx, Int.toNat_natCast]
    rfl
  · intro k acc _
    simp only [laws_toIntS.l0]
    rw [if_neg (by omega)]

theorem eqIntS_refl (l : List Int) (hl : l.length ≤ 9223372036854775807) (k : Nat) (hk : l.length < k) : laws_eqIntS.f k l l = some true := by
  unfold laws_eqIntS.f
  rw [if_pos rfl, loop_scan0 (fun k i => laws_eqIntS.l0 k l l i) l.length 0 (fun _ => none) true ?_ ?_ ?_ k (by omega), scan_false _ _ (fun _ _ _ => rfl)]
  · intro k i r _ hi h
    cases h
  · intro k i _ hi h
    simp only [laws_eqIntS.l0]
    rw [if_pos (by omega), if_pos (by omega), if_pos (by omega), if_pos trivial, w64i hi (by omega)]
  · intro k _
    simp only [laws_eqIntS.l0]
    rw [if_neg (by omega)]

theorem markIntS_loop (n : Nat) (a : Int) (ha : 0 ≤ a) (hb : a + n ≤ 9223372036854775807) : ∀ (d i k : Nat) (l : List Int), i + d = n → d < k → l.length = n → (∀ j, j < i → rd l (j : Nat) = a + j) →
    ∃ M, laws_markIntS.l0 k l (a + i) (i : Int) = some (a + n, M) ∧ M.length = n ∧ ∀ j, j < n → rd M (j : Nat) = a + j := by
  intro d
  induction d with
  | zero =>
    intro i k l hi hk hl hj
    obtain ⟨k, rfl⟩ : ∃ m, k = m + 1 := ⟨k - 1, by omega⟩
    simp only [laws_markIntS.l0]
    rw [if_neg (by omega)]
    obtain rfl : i = n := by omega
    exact ⟨l, rfl, hl, hj⟩
  | succ d ih =>
    intro i k l hi hk hl hj
    obtain ⟨k, rfl⟩ : ∃ m, k = m + 1 := ⟨k - 1, by omega⟩
    simp only [laws_markIntS.l0]
    rw [if_pos (by omega), if_pos (by omega), w64i (show i < n by omega) (by omega), w64 (by omega) (by omega), show a + (i : Int) + 1 = a + ((i + 1 : Nat) : Int) by omega, Int.toNat_natCast]
    refine ih (i + 1) k _ (by omega) (by omega) (by simpa using hl) (fun j hjl => ?_)
    unfold rd
    rw [Int.toNat_natCast, List.getD_eq_getElem?_getD]
    rcases Nat.lt_succ_iff_lt_or_eq.1 hjl with h | rfl
    · rw [List.getElem?_set_ne (by omega)]
      have := hj j h
      unfold rd at this
      rw [Int.toNat_natCast, List.getD_eq_getElem?_getD] at this
      exact this
    · rw [List.getElem?_set_self (by omega)]; rfl
theorem markIntS_eq (l : List Int) (a : Int) (ha : 0 ≤ a) (hb : a + l.length ≤ 9223372036854775807) (k : Nat) (hk : l.length < k) :
    ∃ M, laws_markIntS.f k l a = some (a + l.length, M) ∧ M.length = l.length ∧ ∀ j, j < l.length → rd M (j : Nat) = a + j := by
  unfold laws_markIntS.f
  have h := markIntS_loop l.length a ha hb l.length 0 k l (by omega) hk rfl (fun j hj => by omega)
  simpa using h
theorem heldIntS_eq (M : List Int) (n : Nat) (a : Int) (ha : 0 ≤ a) (hb : a + n ≤ 9223372036854775807) (hl : M.length = n) (hm : ∀ j, j < n → rd M (j : Nat) = a + j) (k : Nat) (hk : n < k) : laws_heldIntS.f k M a = some (a + n) := by
  unfold laws_heldIntS.f
  have key : ∀ (d i k : Nat), i + d = n → d < k → laws_heldIntS.l0 k M (a + i) (i : Int) = some (a + n) := by
    intro d
    induction d with
    | zero =>
      intro i k hi hk
      obtain ⟨k, rfl⟩ : ∃ m, k = m + 1 := ⟨k - 1, by omega⟩
      simp only [laws_heldIntS.l0]
      rw [if_neg (by omega), show i = n by omega]
    | succ d ih =>
      intro i k hi hk
      obtain ⟨k, rfl⟩ : ∃ m, k = m + 1 := ⟨k - 1, by omega⟩
      simp only [laws_heldIntS.l0]
      rw [if_pos (by omega), if_pos (by omega), if_pos (hm i (by omega)), w64i (show i < n by omega) (by omega), w64 (by omega) (by omega), show a + (i : Int) + 1 = a + ((i + 1 : Nat) : Int) by omega]
      exact ih (i + 1) k (by omega) (by omega)
  have := key n 0 k (by omega) hk
  simpa using this

theorem two_dec (a b : Prop) [Decidable a] [Decidable b] : (if a then some (decide b) else some false) = some (decide (a ∧ b)) := by
  by_cases h : a
  · rw [if_pos h]; congr 1; rw [decide_eq_decide]; exact ⟨fun hb => ⟨h, hb⟩, fun hb => hb.2⟩
  · rw [if_neg h]; congr 1; symm; rw [decide_eq_false_iff_not]; exact fun hb => h hb.1

theorem l1In_eq (a b c : Int) : spec_l1In.f a b c = some (decide (b ≤ a ∧ a ≤ c)) := by unfold spec_l1In.f; exact two_dec (a ≥ b) (a ≤ c)

theorem l1Factor_eq (a : Int) : spec_l1Factor.f a = some (decide (0 ≤ a ∧ a ≤ 10000000)) := by unfold spec_l1Factor.f; rw [l1In_eq]; rfl

theorem between_eq (a b c : Int) : impl_between.f a b c = some (decide (b ≤ a ∧ a ≤ c)) := by unfold impl_between.f; exact two_dec (a ≥ b) (a ≤ c)

theorem factor_eq (a : Int) : impl_factor.f a = some (decide (0 ≤ a ∧ a ≤ 10000000)) := by unfold impl_factor.f; rw [between_eq]; rfl

def fsum (f : Nat → Int) : Nat → Int
  | 0 => 0
  | n + 1 => fsum f n + f n
theorem fsum_abs (f : Nat → Int) (B : Nat) : ∀ n, (∀ j, j < n → (f j).natAbs ≤ B) → (fsum f n).natAbs ≤ n * B := by
  intro n
  induction n with
  | zero => intro _; simp [fsum]
  | succ n ih =>
    intro h
    have h1 := ih (fun j hj => h j (by omega))
    have h2 := h n (by omega)
    rw [Nat.succ_mul]
    unfold fsum
    omega
theorem fsum_ge (f : Nat → Int) : ∀ n, (∀ j, j < n → 0 ≤ f j) → 0 ≤ fsum f n ∧ ∀ j, j < n → f j ≤ fsum f n := by
  intro n
  induction n with
  | zero => intro _; exact ⟨by simp [fsum], fun j hj => by omega⟩
  | succ n ih =>
    intro h
    have h1 := ih (fun j hj => h j (by omega))
    have h2 := h n (by omega)
    unfold fsum
    refine ⟨by omega, fun j hj => ?_⟩
    by_cases hjn : j = n
    · subst hjn; omega
    · have := h1.2 j (by omega); omega
theorem fsum_congr (f g : Nat → Int) : ∀ n, (∀ j, j < n → f j = g j) → fsum f n = fsum g n := by
  intro n
  induction n with
  | zero => intro _; rfl
  | succ n ih =>
    intro h
    unfold fsum
    rw [ih (fun j hj => h j (by omega)), h n (by omega)]
theorem fsum_split (t S : Int) (w q m : Nat → Int) (h : ∀ j, S * q j + m j = t * w j) : ∀ n, S * fsum q n + fsum m n = t * fsum w n := by
  intro n
  induction n with
  | zero => simp [fsum]
  | succ n ih =>
    unfold fsum
    rw [Int.mul_add, Int.mul_add, ← ih, ← h n]
    omega
def shQ (t S : Int) (w : List Int) (i : Nat) : Int := Int.tdiv (t * rd w i) S
def shM (t S : Int) (w : List Int) (i : Nat) : Int := Int.tmod (t * rd w i) S
def shR (t S : Int) (w : List Int) (i : Nat) : Int := ((shM t S w i).natAbs : Int)
def okW (w : List Int) : Prop := ∀ j, j < w.length → 0 ≤ rd w (j : Nat) ∧ rd w (j : Nat) ≤ 10000000
theorem mulw (t x : Int) (ht : -100000000000 ≤ t ∧ t ≤ 100000000000) (hx : 0 ≤ x ∧ x ≤ 10000000) : -1000000000000000000 ≤ t * x ∧ t * x ≤ 1000000000000000000 := by
  have h1 : (t * x).natAbs = t.natAbs * x.natAbs := Int.natAbs_mul t x
  have h2 : t.natAbs * x.natAbs ≤ 100000000000 * 10000000 := Nat.mul_le_mul (by omega) (by omega)
  omega
theorem wmulw (t x : Int) (ht : -100000000000 ≤ t ∧ t ≤ 100000000000) (hx : 0 ≤ x ∧ x ≤ 10000000) : wrap64 (t * x) = t * x := by
  have := mulw t x ht hx
  exact w64 (by omega) (by omega)
theorem shQ_abs (t S : Int) (w : List Int) (i : Nat) (hx : 0 ≤ rd w i ∧ rd w i ≤ S) : (shQ t S w i).natAbs ≤ t.natAbs := by
  unfold shQ
  rw [Int.natAbs_tdiv, Int.natAbs_mul]
  show (t.natAbs * (rd w i).natAbs) / S.natAbs ≤ t.natAbs
  apply Nat.div_le_of_le_mul
  rw [Nat.mul_comm]
  exact Nat.mul_le_mul (by omega) (Nat.le_refl _)
theorem shM_abs (t S : Int) (w : List Int) (i : Nat) (hS : 0 < S) : (shM t S w i).natAbs ≤ S.natAbs - 1 := by
  unfold shM
  rw [Int.natAbs_tmod]
  have := Nat.mod_lt (t * rd w i).natAbs (show 0 < S.natAbs by omega)
  omega
theorem sh_left (t : Int) (w : List Int) (S : Int) (hS : S = fsum (fun j => rd w j) w.length) (h0 : 0 < S) : (t - fsum (shQ t S w) w.length).natAbs ≤ w.length := by
  have h1 := fsum_split t S (fun j => rd w j) (shQ t S w) (shM t S w) (fun j => Int.mul_tdiv_add_tmod _ _) w.length
  rw [← hS] at h1
  have h2 := fsum_abs (shM t S w) (S.natAbs - 1) w.length (fun j _ => shM_abs t S w j h0)
  have h3 : S * (t - fsum (shQ t S w) w.length) = fsum (shM t S w) w.length := by
    rw [Int.mul_sub, Int.mul_comm S t, ← h1]; omega
  have h4 : S.natAbs * (t - fsum (shQ t S w) w.length).natAbs ≤ w.length * (S.natAbs - 1) := by
    rw [← Int.natAbs_mul, h3]; exact h2
  have h5 : w.length * (S.natAbs - 1) ≤ S.natAbs * w.length := by
    rw [Nat.mul_comm]; exact Nat.mul_le_mul (by omega) (Nat.le_refl _)
  exact Nat.le_of_mul_le_mul_left (Nat.le_trans h4 h5) (by omega)
/-- The scan and the sum of the weights. -/
theorem specL0_ok (t : Int) (w x5 : List Int) (hw : okW w) (hl : w.length ≤ 200) : ∀ (d i k : Nat), i + d = w.length → spec_Shares.l0 (k + d) t w x5 (fsum (fun j => rd w j) i) (i : Int) = spec_Shares.l0 k t w x5 (fsum (fun j => rd w j) w.length) (w.length : Int) := by
  intro d
  induction d with
  | zero => intro i k hi; obtain rfl : i = w.length := by omega
            rfl
  | succ d ih =>
    intro i k hi
    have h1 := hw i (by omega)
    have h2 := fsum_abs (fun j => rd w j) 10000000 i (fun j hj => by have := hw j (by omega); omega)
    rw [← Nat.add_assoc, spec_Shares.l0, if_pos (by omega), if_pos (by omega), l1Factor_eq, decide_eq_true h1]
    simp only [Option.bind_some, if_true]
    rw [w64i (show i < w.length by omega) (by omega), w64 (by omega) (by omega)]
    exact ih (i + 1) k (by omega)
theorem specL0_bad (t : Int) (w x5 : List Int) (hl : w.length ≤ 200) : ∀ (d i k : Nat) (s : Int), i + d = w.length → d < k → (∃ j, i ≤ j ∧ j < w.length ∧ ¬ (0 ≤ rd w (j : Nat) ∧ rd w (j : Nat) ≤ 10000000)) → spec_Shares.l0 k t w x5 s (i : Int) = some x5 := by
  intro d
  induction d with
  | zero => intro i k s hi hk ⟨j, h1, h2, _⟩; omega
  | succ d ih =>
    intro i k s hi hk ⟨j, h1, h2, h3⟩
    obtain ⟨k, rfl⟩ : ∃ m, k = m + 1 := ⟨k - 1, by omega⟩
    rw [spec_Shares.l0, if_pos (by omega), if_pos (by omega), l1Factor_eq]
    simp only [Option.bind_some, decide_eq_true_eq]
    by_cases h : 0 ≤ rd w i ∧ rd w i ≤ 10000000
    · rw [if_pos h, w64i (show i < w.length by omega) (by omega)]
      have : i ≠ j := fun e => h3 (e ▸ h)
      exact ih (i + 1) k _ (by omega) (by omega) ⟨j, by omega, h2, h3⟩
    · rw [if_neg h]
theorem implL0_ok (t : Int) (w : List Int) (hw : okW w) (hl : w.length ≤ 200) : ∀ (d i k : Nat), i + d = w.length → impl_Shares.l0 (k + d) t w w (w.length : Int) (i : Int) = impl_Shares.l0 k t w w (w.length : Int) (w.length : Int) := by
  intro d
  induction d with
  | zero => intro i k hi; obtain rfl : i = w.length := by omega
            rfl
  | succ d ih =>
    intro i k hi
    have h1 := hw i (by omega)
    rw [← Nat.add_assoc, impl_Shares.l0, if_pos (by omega), if_pos (by omega), if_pos (by omega), factor_eq, decide_eq_true h1]
    simp only [Option.bind_some, if_true]
    rw [w64i (show i < w.length by omega) (by omega)]
    exact ih (i + 1) k (by omega)
theorem implL0_bad (t : Int) (w : List Int) (hl : w.length ≤ 200) : ∀ (d i k : Nat), i + d = w.length → d < k → (∃ j, i ≤ j ∧ j < w.length ∧ ¬ (0 ≤ rd w (j : Nat) ∧ rd w (j : Nat) ≤ 10000000)) → impl_Shares.l0 k t w w (w.length : Int) (i : Int) = some [] := by
  intro d
  induction d with
  | zero => intro i k hi hk ⟨j, h1, h2, _⟩; omega
  | succ d ih =>
    intro i k hi hk ⟨j, h1, h2, h3⟩
    obtain ⟨k, rfl⟩ : ∃ m, k = m + 1 := ⟨k - 1, by omega⟩
    rw [impl_Shares.l0, if_pos (by omega), if_pos (by omega), if_pos (by omega), factor_eq]
    simp only [Option.bind_some, decide_eq_true_eq]
    by_cases h : 0 ≤ rd w i ∧ rd w i ≤ 10000000
    · rw [if_pos h, w64i (show i < w.length by omega) (by omega)]
      have : i ≠ j := fun e => h3 (e ▸ h)
      exact ih (i + 1) k (by omega) (by omega) ⟨j, by omega, h2, h3⟩
    · rw [if_neg h]
theorem sumOf_eq (l : List Int) (hl : l.length ≤ 200) (hb : ∀ j, j < l.length → (rd l (j : Nat)).natAbs ≤ 100000000000) (k : Nat) (hk : l.length < k) : impl_sumOf.f k l = some (fsum (fun j => rd l j) l.length) := by
  unfold impl_sumOf.f
  have key : ∀ (d i k : Nat), i + d = l.length → d < k → impl_sumOf.l0 k (fsum (fun j => rd l j) i) l (l.length : Int) (i : Int) = some (fsum (fun j => rd l j) l.length) := by
    intro d
    induction d with
    | zero =>
      intro i k hi hk
      obtain ⟨k, rfl⟩ : ∃ m, k = m + 1 := ⟨k - 1, by omega⟩
      obtain rfl : i = l.length := by omega
      rw [impl_sumOf.l0, if_neg (by omega)]
    | succ d ih =>
      intro i k hi hk
      obtain ⟨k, rfl⟩ : ∃ m, k = m + 1 := ⟨k - 1, by omega⟩
      have h1 := hb i (by omega)
      have h2 := fsum_abs (fun j => rd l j) 100000000000 i (fun j hj => hb j (by omega))
      rw [impl_sumOf.l0, if_pos (by omega), if_pos (by omega), if_pos (by omega), w64i (show i < l.length by omega) (by omega), w64 (by omega) (by omega)]
      exact ih (i + 1) k (by omega) (by omega)
  exact key l.length 0 k (by omega) hk
def outsN (t S : Int) (w : List Int) (n : Nat) : List Int := (List.range n).map (shQ t S w)
def restsN (t S : Int) (w : List Int) (n : Nat) : List Int := (List.range n).map (shR t S w)
def itemsN (t S : Int) (w : List Int) (n : Nat) : List S79 := (List.range n).map (fun (i : Nat) => (⟨(i : Int), shR t S w i⟩ : S79))
theorem outsN_succ (t S : Int) (w : List Int) (n : Nat) : outsN t S w (n + 1) = outsN t S w n ++ [shQ t S w n] := by simp [outsN, List.range_succ]
theorem restsN_succ (t S : Int) (w : List Int) (n : Nat) : restsN t S w (n + 1) = restsN t S w n ++ [shR t S w n] := by simp [restsN, List.range_succ]
theorem itemsN_succ (t S : Int) (w : List Int) (n : Nat) : itemsN t S w (n + 1) = itemsN t S w n ++ [(⟨(n : Int), shR t S w n⟩ : S79)] := by simp [itemsN, List.range_succ]
theorem outsN_len (t S : Int) (w : List Int) (n : Nat) : (outsN t S w n).length = n := by simp [outsN]
theorem restsN_len (t S : Int) (w : List Int) (n : Nat) : (restsN t S w n).length = n := by simp [restsN]
theorem itemsN_len (t S : Int) (w : List Int) (n : Nat) : (itemsN t S w n).length = n := by simp [itemsN]
theorem rd_map (f : Nat → Int) (n j : Nat) (h : j < n) : rd ((List.range n).map f) (j : Nat) = f j := by
  unfold rd
  rw [Int.toNat_natCast, List.getD_eq_getElem?_getD, List.getElem?_map, List.getElem?_range h]; rfl
theorem rd_outs (t S : Int) (w : List Int) (n j : Nat) (h : j < n) : rd (outsN t S w n) (j : Nat) = shQ t S w j := rd_map _ _ _ h
theorem rd_rests (t S : Int) (w : List Int) (n j : Nat) (h : j < n) : rd (restsN t S w n) (j : Nat) = shR t S w j := rd_map _ _ _ h
theorem l1Abs_eq (a : Int) (h : -9223372036854775808 < a) (h' : a ≤ 9223372036854775807) : spec_l1Abs.f a = some (a.natAbs : Int) := by
  unfold spec_l1Abs.f
  by_cases hc : a < 0
  · rw [if_pos hc, w64 (by omega) (by omega)]; congr 1; omega
  · rw [if_neg hc]; congr 1; omega
theorem set_app {α : Type} (A : List α) (x z : α) (d : Nat) : (A ++ List.replicate (d + 1) z).set A.length x = (A ++ [x]) ++ List.replicate d z := by
  rw [List.set_append_right _ _ (Nat.le_refl _), Nat.sub_self, List.replicate_succ, List.set_cons_zero, List.append_assoc]; rfl
structure ShOk (t S : Int) (w : List Int) : Prop where
  ht : -100000000000 ≤ t ∧ t ≤ 100000000000
  hw : okW w
  hl : w.length ≤ 200
  hS : S = fsum (fun j => rd w j) w.length
  h0 : 0 < S
theorem ShOk.le {t S : Int} {w : List Int} (H : ShOk t S w) (j : Nat) (hj : j < w.length) : 0 ≤ rd w j ∧ rd w j ≤ S := by
  have h1 := H.hw j hj
  have h2 := (fsum_ge (fun j => rd w j) w.length (fun j hj => (H.hw j hj).1)).2 j hj
  rw [← H.hS] at h2
  exact ⟨h1.1, h2⟩
theorem ShOk.Sle {t S : Int} {w : List Int} (H : ShOk t S w) : S ≤ 2000000000 := by
  have h2 := fsum_abs (fun j => rd w j) 10000000 w.length (fun j hj => by have := H.hw j hj; omega)
  rw [← H.hS] at h2
  have := H.hl
  omega
theorem ShOk.q {t S : Int} {w : List Int} (H : ShOk t S w) (j : Nat) (hj : j < w.length) : (shQ t S w j).natAbs ≤ 100000000000 := by
  have h1 := shQ_abs t S w j (H.le j hj)
  have := H.ht
  omega
theorem ShOk.m {t S : Int} {w : List Int} (H : ShOk t S w) (j : Nat) : (shM t S w j).natAbs ≤ 2000000000 := by
  have h1 := shM_abs t S w j H.h0
  have := H.Sle
  have := H.h0
  omega
theorem ShOk.fq {t S : Int} {w : List Int} (H : ShOk t S w) (i : Nat) (hi : i ≤ w.length) : (fsum (shQ t S w) i).natAbs ≤ 20000000000000 := by
  have h2 := fsum_abs (shQ t S w) 100000000000 i (fun j hj => H.q j (by omega))
  have := H.hl
  omega
theorem specL1_eq (t S : Int) (w : List Int) (H : ShOk t S w) : ∀ (d i k : Nat), i + d = w.length → spec_Shares.l1 (k + d) t w (outsN t S w i) S (restsN t S w i) (t - fsum (shQ t S w) i) (i : Int) = spec_Shares.l1 k t w (outsN t S w w.length) S (restsN t S w w.length) (t - fsum (shQ t S w) w.length) (w.length : Int) := by
  intro d
  induction d with
  | zero => intro i k hi; obtain rfl : i = w.length := by omega
            rfl
  | succ d ih =>
    intro i k hi
    have hi' : i < w.length := by omega
    have h0 := H.h0
    have hl := H.hl
    have e1 := wmulw t (rd w i) H.ht (H.hw i hi')
    have h1 := H.q i hi'
    have h2 := H.m i
    have h3 := H.fq i (by omega)
    have h4 := H.ht
    have e2 : wrap64 (Int.tdiv (t * rd w i) S) = shQ t S w i := w64 (by unfold shQ at h1; omega) (by unfold shQ at h1; omega)
    have e3 : spec_l1Abs.f (Int.tmod (t * rd w i) S) = some (shR t S w i) := l1Abs_eq _ (by unfold shM at h2; omega) (by unfold shM at h2; omega)
    rw [← Nat.add_assoc, spec_Shares.l1, if_pos (by omega), if_pos (by omega), if_neg (by omega), outsN_len, if_pos (by omega), e1, e3]
    simp only [Option.bind_some]
    rw [restsN_len, if_pos (by omega), e2, ← outsN_succ, ← restsN_succ, w64i hi' (by omega), w64 (by omega) (by omega), show t - fsum (shQ t S w) i - shQ t S w i = t - fsum (shQ t S w) (i + 1) by rw [fsum]; omega]
    exact ih (i + 1) k (by omega)
theorem implL1_eq (t S : Int) (w : List Int) (H : ShOk t S w) : ∀ (d i k : Nat), i + d = w.length → impl_Shares.l1 (k + d) t S (outsN t S w i ++ List.replicate d 0) (itemsN t S w i ++ List.replicate d z79) w (w.length : Int) (i : Int) = impl_Shares.l1 k t S (outsN t S w w.length) (itemsN t S w w.length) w (w.length : Int) (w.length : Int) := by
  intro d
  induction d with
  | zero => intro i k hi; obtain rfl : i = w.length := by omega
            simp only [List.replicate_zero, List.append_nil]; rfl
  | succ d ih =>
    intro i k hi
    have hi' : i < w.length := by omega
    have h0 := H.h0
    have hl := H.hl
    have e1 := wmulw t (rd w i) H.ht (H.hw i hi')
    have h1 := H.q i hi'
    have h2 := H.m i
    have e2 : wrap64 (Int.tdiv (t * rd w i) S) = shQ t S w i := w64 (by unfold shQ at h1; omega) (by unfold shQ at h1; omega)
    have l1 : (outsN t S w i ++ List.replicate (d + 1) (0 : Int)).length = w.length := by simp [outsN_len]; omega
    have l2 : (itemsN t S w i ++ List.replicate (d + 1) z79).length = w.length := by simp [itemsN_len]; omega
    have s1 := set_app (outsN t S w i) (shQ t S w i) (0 : Int) d
    have s2 := set_app (itemsN t S w i) (⟨(i : Int), shR t S w i⟩ : S79) z79 d
    rw [outsN_len, ← outsN_succ] at s1
    rw [itemsN_len, ← itemsN_succ] at s2
    rw [← Nat.add_assoc, impl_Shares.l1, if_pos (by omega), if_pos (by omega), if_pos (by omega), if_neg (by omega), l1, if_pos (by omega), e1, e2, Int.toNat_natCast, s1, l2]
    simp only [Option.bind_some]
    rw [w64i hi' (by omega)]
    have er : shM t S w i = Int.tmod (t * rd w i) S := rfl
    rw [← er]
    by_cases hc : shM t S w i < 0
    · rw [if_pos hc, if_pos (by omega), show wrap64 (-(shM t S w i)) = shR t S w i by (unfold shR; rw [w64 (by omega) (by omega)]; omega), s2]
      exact ih (i + 1) k (by omega)
    · rw [if_neg hc, if_pos (by omega)]
      have e5 : (⟨(i : Int), shM t S w i⟩ : S79) = ⟨(i : Int), shR t S w i⟩ := by congr 1; unfold shR; omega
      rw [e5, s2]
      exact ih (i + 1) k (by omega)
/-- The order: greater rests first, then lesser places. -/
def shLt (a b : S79) : Prop := b.f1 < a.f1 ∨ (b.f1 = a.f1 ∧ a.f0 < b.f0)
def shLe (a b : S79) : Bool := !decide (b.f1 > a.f1)
theorem mg_sorted : ∀ (n : Nat) (a b : List S79), a.length + b.length = n → a.Pairwise shLt → b.Pairwise shLt → (∀ x ∈ a, ∀ y ∈ b, x.f0 < y.f0) → (List.merge a b shLe).Pairwise shLt := by
  intro n
  induction n with
  | zero =>
    intro a b h ha hb _
    obtain rfl : a = [] := List.eq_nil_of_length_eq_zero (by omega)
    rw [List.nil_merge]; exact hb
  | succ n ih =>
    intro a b h ha hb hx
    cases a with
    | nil => rw [List.nil_merge]; exact hb
    | cons x a =>
      cases b with
      | nil => rw [List.merge_right]; exact ha
      | cons y b =>
        rw [List.cons_merge_cons]
        have ha' := List.pairwise_cons.1 ha
        have hb' := List.pairwise_cons.1 hb
        simp only [List.length_cons] at h
        have hxy := hx x (by simp) y (by simp)
        by_cases hc : y.f1 > x.f1
        · rw [if_neg (by simp [shLe, hc])]
          refine List.pairwise_cons.2 ⟨fun z hz => ?_, ih _ _ (by simp only [List.length_cons]; omega) ha hb'.2 (fun p hp q hq => hx p hp q (by simp [hq]))⟩
          rcases List.mem_merge.1 hz with hz | hz
          · rcases List.mem_cons.1 hz with rfl | hz
            · exact .inl hc
            · rcases ha'.1 z hz with h1 | h1
              · exact .inl (by omega)
              · exact .inl (by omega)
          · exact hb'.1 z hz
        · rw [if_pos (by simp [shLe, hc])]
          refine List.pairwise_cons.2 ⟨fun z hz => ?_, ih _ _ (by simp only [List.length_cons]; omega) ha'.2 hb (fun p hp q hq => hx p (by simp [hp]) q hq)⟩
          rcases List.mem_merge.1 hz with hz | hz
          · exact ha'.1 z hz
          · have hxz := hx x (by simp) z hz
            unfold shLt
            rcases List.mem_cons.1 hz with rfl | hz
            · omega
            · rcases hb'.1 z hz with h1 | h1 <;> omega
theorem rd79 (xs : List S79) (i : Nat) (h : i < xs.length) : rd_T79 xs (i : Int) = xs[i] := by
  unfold rd_T79
  rw [Int.toNat_natCast, List.getD_eq_getElem?_getD, List.getElem?_eq_getElem h]; rfl
theorem set_done {α : Type} (done tail : List α) (x y : α) (p : Nat) (hp : done.length = p) : (done ++ y :: tail).set p x = (done ++ [x]) ++ tail := by
  subst hp
  rw [List.set_append_right _ _ (Nat.le_refl _), Nat.sub_self, List.set_cons_zero, List.append_assoc]; rfl
theorem mg_loop (a b : List S79) (hn : a.length + b.length ≤ 1000000) : ∀ (d k : Nat) (done tail : List S79) (i j : Nat), tail.length = d → i ≤ a.length → j ≤ b.length → i + j + d = a.length + b.length → done.length = i + j → impl_cutOff.l0 (k + 1 + d) (done ++ tail) a b (i : Int) (j : Int) ((a.length + b.length : Nat) : Int) ((i + j : Nat) : Int) = some (done ++ List.merge (a.drop i) (b.drop j) shLe) := by
  intro d
  induction d with
  | zero =>
    intro k done tail i j ht hi hj hd hdone
    obtain rfl : i = a.length := by omega
    obtain rfl : j = b.length := by omega
    obtain rfl : tail = [] := List.eq_nil_of_length_eq_zero ht
    rw [Nat.add_zero, impl_cutOff.l0, if_neg (by omega), List.drop_length, List.drop_length]
    simp
  | succ d ih =>
    intro k done tail i j ht hi hj hd hdone
    cases tail with
    | nil => simp at ht
    | cons y tail =>
      simp only [List.length_cons] at ht
      have hlen : (done ++ y :: tail).length = a.length + b.length := by simp; omega
      have ew : wrap64 (((i + j : Nat) : Int) + 1) = ((i + j + 1 : Nat) : Int) := w64i (show i + j < a.length + b.length by omega) (by omega)
      have takeA : ∀ (hia : i < a.length), impl_cutOff.l0 (k + 1 + d) ((done ++ y :: tail).set (i + j) a[i]) a b (wrap64 ((i : Int) + 1)) (j : Int) ((a.length + b.length : Nat) : Int) ((i + j + 1 : Nat) : Int) = some (done ++ a[i] :: List.merge (a.drop (i + 1)) (b.drop j) shLe) := by
        intro hia
        rw [set_done done tail _ y (i + j) hdone, w64i hia (by omega)]
        have := ih k (done ++ [a[i]]) tail (i + 1) j (by omega) (by omega) hj (by omega) (by simp; omega)
        rw [show i + 1 + j = i + j + 1 by omega] at this
        rw [this, List.append_assoc]; rfl
      have takeB : ∀ (hjb : j < b.length), impl_cutOff.l0 (k + 1 + d) ((done ++ y :: tail).set (i + j) b[j]) a b (i : Int) (wrap64 ((j : Int) + 1)) ((a.length + b.length : Nat) : Int) ((i + j + 1 : Nat) : Int) = some (done ++ b[j] :: List.merge (a.drop i) (b.drop (j + 1)) shLe) := by
        intro hjb
        rw [set_done done tail _ y (i + j) hdone, w64i hjb (by omega)]
        have := ih k (done ++ [b[j]]) tail i (j + 1) (by omega) hi (by omega) (by omega) (by simp; omega)
        rw [show i + (j + 1) = i + j + 1 by omega] at this
        rw [this, List.append_assoc]; rfl
      rw [← Nat.add_assoc, impl_cutOff.l0, if_pos (by omega), Int.toNat_natCast, hlen, ew]
      by_cases hjb : j = b.length
      · have hia : i < a.length := by omega
        rw [if_pos (by omega), if_pos (by omega), if_pos (by omega), if_pos (by omega), if_pos (by omega), rd79 a i hia]
        show impl_cutOff.l0 (k + 1 + d) ((done ++ y :: tail).set (i + j) a[i]) a b _ _ _ _ = _
        rw [takeA hia, List.drop_eq_getElem_cons hia, show List.drop j b = [] by rw [hjb]; exact List.drop_length, List.merge_right, List.merge_right]
      · have hjb' : j < b.length := by omega
        rw [if_neg (by omega)]
        by_cases hia : i < a.length
        · rw [if_pos (by omega), if_pos (by omega), if_pos (by omega), if_pos (by omega), rd79 a i hia, rd79 b j hjb']
          simp only [impl_Shares_1.f, Option.bind_some, decide_eq_true_eq]
          rw [List.drop_eq_getElem_cons hia, List.drop_eq_getElem_cons hjb', List.cons_merge_cons]
          by_cases hc : b[j].f1 > a[i].f1
          · rw [if_pos hc, if_pos (by omega), if_pos (by omega), if_neg (by simp [shLe, hc]), ← List.drop_eq_getElem_cons hia]
            exact takeB hjb'
          · rw [if_neg hc, if_pos (by omega), if_pos (by omega), if_pos (by simp [shLe, hc]), ← List.drop_eq_getElem_cons hjb']
            exact takeA hia
        · rw [if_neg (by omega), if_pos (by omega), if_pos (by omega), if_pos (by omega), if_pos (by omega), rd79 b j hjb']
          show impl_cutOff.l0 (k + 1 + d) ((done ++ y :: tail).set (i + j) b[j]) a b _ _ _ _ = _
          rw [takeB hjb', List.drop_eq_getElem_cons hjb', show List.drop i a = [] by rw [show i = a.length by omega]; exact List.drop_length, List.nil_merge, List.nil_merge]
theorem cutOff_eq : ∀ (n : Nat) (l : List S79), l.length = n → n ≤ 1000000 → l.Pairwise (fun x y => x.f0 < y.f0) → ∃ s, s.Perm l ∧ s.Pairwise shLt ∧ ∀ k, 2 * n + 5 ≤ k → impl_cutOff.f k l = some s := by
  intro n
  induction n using Nat.strongRecOn with
  | _ n ih =>
    intro l hl hn hp
    by_cases h2 : (l.length : Int) < 2
    · refine ⟨l, List.Perm.refl _, ?_, ?_⟩
      · match l, h2 with
        | [], _ => exact List.Pairwise.nil
        | [x], _ => exact List.pairwise_singleton _ _
        | x :: y :: l, h2 => simp only [List.length_cons] at h2; omega
      · intro k hk
        obtain ⟨k, rfl⟩ : ∃ m, k = m + 1 := ⟨k - 1, by omega⟩
        rw [impl_cutOff.f, if_pos h2]
    · have ew : wrap64 ((l.length : Int) / 2) = ((l.length / 2 : Nat) : Int) := by rw [w64 (by omega) (by omega)]; omega
      have ht : (l.take (l.length / 2)).length = l.length / 2 := by rw [List.length_take]; omega
      have hd : (l.drop (l.length / 2)).length = l.length - l.length / 2 := List.length_drop
      have hpp : (l.take (l.length / 2) ++ l.drop (l.length / 2)).Pairwise (fun x y => x.f0 < y.f0) := by rw [List.take_append_drop]; exact hp
      rw [List.pairwise_append] at hpp
      obtain ⟨a, pa, sa, ea⟩ := ih _ (by omega) (l.take (l.length / 2)) ht (by omega) hpp.1
      obtain ⟨b, pb, sb, eb⟩ := ih _ (by omega) (l.drop (l.length / 2)) hd (by omega) hpp.2.1
      have la := pa.length_eq
      have lb := pb.length_eq
      refine ⟨List.merge a b shLe, ?_, mg_sorted _ a b rfl sa sb (fun x hx y hy => hpp.2.2 x (pa.mem_iff.1 hx) y (pb.mem_iff.1 hy)), ?_⟩
      · refine (List.merge_perm_append _).trans ?_
        have := pa.append pb
        rwa [List.take_append_drop] at this
      · intro k hk
        obtain ⟨k, rfl⟩ : ∃ m, k = m + 1 := ⟨k - 1, by omega⟩
        rw [impl_cutOff.f, if_neg h2]
        rw [ew, Int.toNat_natCast]
        simp only [Option.bind_some, List.nil_append, List.length_nil, Nat.zero_add]
        rw [if_pos (by omega), if_pos (by omega), ht, if_pos (by omega), hd, if_pos (by omega), ea k (by omega), eb k (by omega)]
        simp only [Option.bind_some]
        have key := mg_loop a b (by omega) l.length (k - 1 - l.length) [] l 0 0 rfl (by omega) (by omega) (by omega) rfl
        rw [show k - 1 - l.length + 1 + l.length = k by omega, List.nil_append, show a.length + b.length = l.length by omega, List.drop_zero, List.drop_zero, List.nil_append] at key
        exact key
/-- The first greatest. -/
def fstMax (x : List Int) (m : Nat) : Prop := m < x.length ∧ ∀ j, j < x.length → rd x (j : Nat) < rd x (m : Nat) ∨ (rd x (j : Nat) = rd x (m : Nat) ∧ m ≤ j)
theorem fstMax_uniq {x : List Int} {m m' : Nat} (h : fstMax x m) (h' : fstMax x m') : m = m' := by
  have h1 := h.2 m' h'.1
  have h2 := h'.2 m h.1
  omega
theorem specL3_eq (o x : List Int) (x9 one : Int) (m : Nat) (hm : fstMax x m) (hl : x.length ≤ 200) : ∀ (d i k best : Nat), i + d = x.length → best < i → (∀ j, j < i → rd x (j : Nat) < rd x (best : Nat) ∨ (rd x (j : Nat) = rd x (best : Nat) ∧ best ≤ j)) → spec_Shares.l3 (k + d) o x x9 one (best : Int) (i : Int) = spec_Shares.l3 k o x x9 one (m : Int) (x.length : Int) := by
  intro d
  induction d with
  | zero =>
    intro i k best hi hb h
    obtain rfl : i = x.length := by omega
    rw [fstMax_uniq hm ⟨hb, h⟩]; rfl
  | succ d ih =>
    intro i k best hi hb h
    rw [← Nat.add_assoc, spec_Shares.l3, if_pos (by omega), if_pos (by omega), if_pos (by omega), if_pos (by omega), w64i (show i < x.length by omega) (by omega)]
    by_cases hc : rd x i > rd x best
    · rw [if_pos hc]
      refine ih (i + 1) k i (by omega) (by omega) (fun j hj => ?_)
      by_cases hji : j = i
      · subst hji; exact .inr ⟨rfl, Nat.le_refl _⟩
      · have := h j (by omega); exact .inl (by omega)
    · rw [if_neg hc]
      refine ih (i + 1) k best (by omega) (by omega) (fun j hj => ?_)
      by_cases hji : j = i
      · subst hji; omega
      · exact h j (by omega)
/-- What is left goes to the first ones of the order. -/
def gv (s : List S79) (one : Int) : Nat → Nat → List Int → List Int
  | 0, _, o => o
  | d + 1, p, o => gv s one d (p + 1) (o.set (rd_T79 s p).f0.toNat (wrap64 (rd o (rd_T79 s p).f0 + one)))
theorem gv_len (s : List S79) (one : Int) : ∀ (d p : Nat) (o : List Int), (gv s one d p o).length = o.length := by
  intro d
  induction d with
  | zero => intro p o; rfl
  | succ d ih => intro p o; rw [gv, ih, List.length_set]
theorem implL2_eq (s : List S79) (one : Int) (n m : Nat) (hs : s.length = n) (hn : n ≤ 200) (hm : m ≤ n) (hi : ∀ p, p < n → 0 ≤ (rd_T79 s (p : Nat)).f0 ∧ (rd_T79 s (p : Nat)).f0 < n) : ∀ (d p k : Nat) (o : List Int), p + d = m → d < k → o.length = n → impl_Shares.l2 k o s (m : Int) one (p : Int) = some (gv s one d p o) := by
  intro d
  induction d with
  | zero =>
    intro p k o hp hk ho
    obtain ⟨k, rfl⟩ : ∃ q, k = q + 1 := ⟨k - 1, by omega⟩
    rw [impl_Shares.l2, if_neg (by omega)]; rfl
  | succ d ih =>
    intro p k o hp hk ho
    obtain ⟨k, rfl⟩ : ∃ q, k = q + 1 := ⟨k - 1, by omega⟩
    have h1 := hi p (by omega)
    rw [impl_Shares.l2, if_pos (by omega), if_pos (by omega), if_pos (by omega), if_pos h1.1, if_pos (by omega), w64i (show p < n by omega) (by omega)]
    exact ih (p + 1) k _ (by omega) (by omega) (by rw [List.length_set]; exact ho)
theorem rd_set_ne (x : List Int) (i j : Nat) (v : Int) (h : i ≠ j) : rd (x.set i v) (j : Nat) = rd x (j : Nat) := by
  unfold rd
  rw [Int.toNat_natCast, List.getD_eq_getElem?_getD, List.getD_eq_getElem?_getD, List.getElem?_set_ne h]
theorem rd_set_self (x : List Int) (i : Nat) (v : Int) (h : i < x.length) : rd (x.set i v) (i : Nat) = v := by
  unfold rd
  rw [Int.toNat_natCast, List.getD_eq_getElem?_getD, List.getElem?_set_self h]; rfl
theorem specL2_eq (s : List S79) (one : Int) (n m : Nat) (r : Nat → Int) (hr : ∀ j, j < n → 0 ≤ r j) (hs : s.length = n) (hn : n ≤ 200) (hm : m ≤ n) (h1 : one = 1 ∨ one = -1) (hi : ∀ p, p < n → ∃ j : Nat, j < n ∧ rd_T79 s (p : Nat) = ⟨(j : Int), r j⟩) (hsur : ∀ j, j < n → ∃ p, p < n ∧ rd_T79 s (p : Nat) = ⟨(j : Int), r j⟩) (hlt : ∀ p q, p < q → q < n → shLt (rd_T79 s (p : Nat)) (rd_T79 s (q : Nat))) :
    ∀ (d p k : Nat) (o x : List Int), p + d = m → 300 * d + 300 ≤ k → o.length = n → x.length = n → (∀ i j : Nat, i < p → j < n → (rd_T79 s (i : Nat)).f0 = j → rd x (j : Nat) = -1) → (∀ i j : Nat, p ≤ i → i < n → j < n → (rd_T79 s (i : Nat)).f0 = j → rd x (j : Nat) = r j) → spec_Shares.l2 k o x (one * d) one = some (gv s one d p o) := by
  intro d
  induction d with
  | zero =>
    intro p k o x hp hk ho hx _ _
    obtain ⟨k, rfl⟩ : ∃ q, k = q + 1 := ⟨k - 1, by omega⟩
    rw [spec_Shares.l2, if_pos (by simp)]; rfl
  | succ d ih =>
    intro p k o x hp hk ho hx ha hb
    obtain ⟨k, rfl⟩ : ∃ q, k = q + 1 := ⟨k - 1, by omega⟩
    have hpn : p < n := by omega
    obtain ⟨j, hj, ej⟩ := hi p hpn
    have xj : rd x (j : Nat) = r j := hb p j (Nat.le_refl _) hpn hj (by rw [ej])
    have rj := hr j hj
    have hmax : fstMax x j := by
      refine ⟨by omega, fun i hii => ?_⟩
      obtain ⟨q, hq, eq⟩ := hsur i (by omega)
      rcases Nat.lt_trichotomy q p with h | h | h
      · have := ha q i h (by omega) (by rw [eq]); exact .inl (by omega)
      · subst h
        rw [ej] at eq
        injection eq with e1 e2
        obtain rfl : j = i := by omega
        exact .inr ⟨rfl, Nat.le_refl _⟩
      · have e1 := hb q i (by omega) hq (by omega) (by rw [eq])
        have e2 := hlt p q h hq
        rw [ej, eq] at e2
        unfold shLt at e2
        dsimp only at e2
        omega
    rw [spec_Shares.l2, if_neg (by rcases h1 with rfl | rfl <;> omega)]
    have e3 := specL3_eq o x (one * ((d + 1 : Nat) : Int)) one j hmax (by omega) (x.length - 1) 1 (k - (x.length - 1)) 0 (by omega) (by omega) (fun i hii => .inr ⟨by rw [show i = 0 by omega], by omega⟩)
    rw [show k - (x.length - 1) + (x.length - 1) = k by omega] at e3
    rw [show ((0 : Int)) = ((0 : Nat) : Int) from rfl, show ((1 : Int)) = ((1 : Nat) : Int) from rfl]
    rw [e3]
    obtain ⟨k', hk'⟩ : ∃ q, k - (x.length - 1) = q + 1 := ⟨k - (x.length - 1) - 1, by omega⟩
    rw [hk', spec_Shares.l3, if_neg (by omega), if_pos (by omega), if_pos (by omega), if_pos (by omega), Int.toNat_natCast]
    have e4 : wrap64 (one * ((d + 1 : Nat) : Int) - one) = one * (d : Int) := by rcases h1 with rfl | rfl <;> (rw [w64 (by omega) (by omega)]; omega)
    rw [e4, ih (p + 1) k' _ _ (by omega) (by omega) (by rw [List.length_set]; exact ho) (by rw [List.length_set]; exact hx)]
    · rw [gv, ej, Int.toNat_natCast]
    · intro i j' hi' hj' e
      by_cases hjj : j = j'
      · subst hjj; exact rd_set_self x j _ (by omega)
      · rw [rd_set_ne x j j' _ hjj]
        have : i ≠ p := fun hip => by subst hip; rw [ej] at e; simp only at e; omega
        exact ha i j' (by omega) hj' e
    · intro i j' hi' hi2 hj' e
      have hjj : j ≠ j' := by
        intro h
        subst h
        obtain ⟨j2, hj2, ej2⟩ := hi i hi2
        rw [ej2] at e
        simp only at e
        obtain rfl : j2 = j := by omega
        have e2 := hlt p i (by omega) hi2
        rw [ej, ej2] at e2
        unfold shLt at e2
        dsimp only at e2
        omega
      rw [rd_set_ne x j j' _ hjj]
      exact hb i j' (by omega) hi2 hj' e
theorem sharesGo (t S : Int) (w : List Int) (H : ShOk t S w) (hn : 1 ≤ w.length) (s : List S79) (s2 : s.Perm (itemsN t S w w.length)) (s3 : s.Pairwise shLt) (s1 : ∀ q, 1000 ≤ q → impl_cutOff.f q (itemsN t S w w.length) = some s) (k : Nat) (hk : 100000 ≤ k) (one : Int) (m : Nat) (hone : one = 1 ∨ one = -1) (hm : m ≤ w.length) (hL : t - fsum (shQ t S w) w.length = one * m) (h0 : m = 0 → one = 1) : spec_Shares.l1 k t w [] S [] t 0 = some (gv s one m 0 (outsN t S w w.length)) ∧ impl_Shares.l1 k t S (List.replicate w.length 0) (List.replicate w.length z79) w (w.length : Int) 0 = some (gv s one m 0 (outsN t S w w.length)) := by
  have hl := H.hl
  have hleft := sh_left t w S H.hS H.h0
  have hfq := H.fq w.length (Nat.le_refl _)
  have ht := H.ht
  have e1 := specL1_eq t S w H w.length 0 (k - w.length) (by omega)
  have e2 := implL1_eq t S w H w.length 0 (k - w.length) (by omega)
  rw [show k - w.length + w.length = k by omega] at e1 e2
  have e1' := e1
  rw [show outsN t S w 0 = [] from rfl, show restsN t S w 0 = [] from rfl, show fsum (shQ t S w) 0 = 0 from rfl, Int.sub_zero] at e1'
  have e2' := e2
  rw [show outsN t S w 0 = [] from rfl, show itemsN t S w 0 = [] from rfl, List.nil_append, List.nil_append] at e2'
  replace e1' : spec_Shares.l1 k t w [] S [] t 0 = _ := e1'
  replace e2' : impl_Shares.l1 k t S (List.replicate w.length 0) (List.replicate w.length z79) w (w.length : Int) 0 = _ := e2'
  have es : fsum (fun j => rd (outsN t S w w.length) j) w.length = fsum (shQ t S w) w.length := fsum_congr _ _ _ (fun j hj => rd_outs t S w w.length j hj)
  obtain ⟨k', hk'⟩ : ∃ q, k - w.length = q + 1 := ⟨k - w.length - 1, by omega⟩
  have hsum := sumOf_eq (outsN t S w w.length) (by rw [outsN_len]; exact hl) (fun j hj => by rw [outsN_len] at hj; rw [rd_outs t S w w.length j hj]; exact H.q j hj) k' (by rw [outsN_len]; omega)
  rw [outsN_len, es] at hsum
  have h1 := hone
  have sl : s.length = w.length := by rw [s2.length_eq, itemsN_len]
  have hi : ∀ p, p < w.length → ∃ j : Nat, j < w.length ∧ rd_T79 s (p : Nat) = ⟨(j : Int), shR t S w j⟩ := by
    intro p hp
    rw [rd79 s p (by omega)]
    have hmem : s[p]'(by omega) ∈ itemsN t S w w.length := s2.mem_iff.1 (List.getElem_mem _)
    unfold itemsN at hmem
    obtain ⟨j, hj, e⟩ := List.mem_map.1 hmem
    exact ⟨j, List.mem_range.1 hj, e.symm⟩
  have hsur : ∀ j, j < w.length → ∃ p, p < w.length ∧ rd_T79 s (p : Nat) = ⟨(j : Int), shR t S w j⟩ := by
    intro j hj
    have hmem : (⟨(j : Int), shR t S w j⟩ : S79) ∈ s := by
      refine s2.mem_iff.2 ?_
      unfold itemsN
      exact List.mem_map.2 ⟨j, List.mem_range.2 hj, rfl⟩
    obtain ⟨p, hp, e⟩ := List.mem_iff_getElem.1 hmem
    exact ⟨p, by omega, by rw [rd79 s p hp]; exact e⟩
  have hlt : ∀ p q, p < q → q < w.length → shLt (rd_T79 s (p : Nat)) (rd_T79 s (q : Nat)) := by
    intro p q hpq hq
    rw [rd79 s p (by omega), rd79 s q (by omega)]
    exact List.pairwise_iff_getElem.1 s3 p q (by omega) (by omega) hpq
  obtain ⟨q, hq⟩ : ∃ q, k' = q + 1 := ⟨k' - 1, by omega⟩
  have j1 : spec_Shares.j3 k' (outsN t S w w.length) (restsN t S w w.length) (one * m) one = some (gv s one m 0 (outsN t S w w.length)) := by
    rw [hq, spec_Shares.j3]
    exact specL2_eq s one w.length m (shR t S w) (fun j _ => by unfold shR; omega) sl hl hm h1 hi hsur hlt m 0 q _ _ (by omega) (by omega) (outsN_len _ _ _ _) (restsN_len _ _ _ _) (fun i j h => by omega) (fun i j _ _ hj _ => rd_rests t S w w.length j hj)
  have j2 : impl_Shares.j3 k' (outsN t S w w.length) (itemsN t S w w.length) m one = some (gv s one m 0 (outsN t S w w.length)) := by
    rw [hq, impl_Shares.j3, s1 q (by omega)]
    exact implL2_eq s one w.length m sl hl hm (fun p hp => by obtain ⟨j, hj, e⟩ := hi p hp; rw [e]; dsimp only; omega) m 0 q _ (by omega) (by omega) (outsN_len _ _ _ _)
  rw [hL] at e1' hleft
  generalize hLL : one * (m : Int) = L at *
  have ew : wrap64 L = L := w64 (by omega) (by omega)
  have f2 : impl_Shares.l1 (k' + 1) t S (outsN t S w w.length) (itemsN t S w w.length) w (w.length : Int) (w.length : Int) = if L < 0 then impl_Shares.j3 k' (outsN t S w w.length) (itemsN t S w w.length) (wrap64 (-L)) (-1) else impl_Shares.j3 k' (outsN t S w w.length) (itemsN t S w w.length) L 1 := by
    rw [impl_Shares.l1, if_neg (by omega), hsum]
    simp only [Option.bind_some]
    rw [hL, ew]
  rw [e1', e2', hk', f2, spec_Shares.l1, if_neg (by omega)]
  by_cases hc : L < 0
  · obtain rfl : one = -1 := by rcases hone with rfl | rfl <;> omega
    rw [if_pos hc, if_pos hc, w64 (by omega) (by omega), show -L = (m : Int) by omega]
    exact ⟨j1, j2⟩
  · obtain rfl : one = 1 := by rcases hone with rfl | rfl <;> omega
    rw [if_neg hc, if_neg hc]
    rw [show (m : Int) = L by omega] at j2
    exact ⟨j1, j2⟩
theorem sharesAll (t S : Int) (w : List Int) (H : ShOk t S w) (hn : 1 ≤ w.length) : ∃ r : List Int, r.length = w.length ∧ ∀ k, 100000 ≤ k → spec_Shares.l1 k t w [] S [] t 0 = some r ∧ impl_Shares.l1 k t S (List.replicate w.length 0) (List.replicate w.length z79) w (w.length : Int) 0 = some r := by
  have hl := H.hl
  have hleft := sh_left t w S H.hS H.h0
  have hp : (itemsN t S w w.length).Pairwise (fun x y => x.f0 < y.f0) := by
    unfold itemsN
    rw [List.pairwise_map]
    exact List.pairwise_lt_range.imp (fun {a b} h => by dsimp only; omega)
  obtain ⟨s, s2, s3, s1⟩ := cutOff_eq w.length _ (itemsN_len t S w w.length) (by omega) hp
  by_cases hc : t - fsum (shQ t S w) w.length < 0
  · exact ⟨_, by rw [gv_len, outsN_len], fun k hk => sharesGo t S w H hn s s2 s3 (fun q hq => s1 q (by omega)) k hk (-1) (t - fsum (shQ t S w) w.length).natAbs (.inr rfl) hleft (by omega) (by omega)⟩
  · exact ⟨_, by rw [gv_len, outsN_len], fun k hk => sharesGo t S w H hn s s2 s3 (fun q hq => s1 q (by omega)) k hk 1 (t - fsum (shQ t S w) w.length).natAbs (.inl rfl) hleft (by omega) (by omega)⟩
theorem specF (t : Int) (w : List Int) (k : Nat) : spec_Shares.f k t w = if -100000000000 ≤ t ∧ t ≤ 100000000000 then spec_Shares.j0 k t w [] (decide ((w.length : Int) > 200)) else spec_Shares.j0 k t w [] true := by
  unfold spec_Shares.f spec_l1Amount.f
  rw [l1In_eq]
  simp only [Option.bind_some, decide_eq_true_eq]
theorem implF (t : Int) (w : List Int) (k : Nat) : impl_Shares.f k t w = if -100000000000 ≤ t ∧ t ≤ 100000000000 then (if (w.length : Int) = 0 then impl_Shares.j0 k t w true else impl_Shares.j0 k t w (decide ((w.length : Int) > 200))) else impl_Shares.j0 k t w true := by
  unfold impl_Shares.f impl_amount.f
  rw [between_eq]
  simp only [Option.bind_some, decide_eq_true_eq]
theorem shares_same (t : Int) (w : List Int) (hl : w.length ≤ 1048576) : ∃ r : List Int, r.length ≤ w.length ∧ ∀ k, 2000000 ≤ k → spec_Shares.f k t w = some r ∧ impl_Shares.f k t w = some r := by
  by_cases ht : -100000000000 ≤ t ∧ t ≤ 100000000000
  · by_cases h0 : w.length = 0
    · obtain rfl : w = [] := List.eq_nil_of_length_eq_zero h0
      refine ⟨[], Nat.le_refl _, fun k hk => ?_⟩
      obtain ⟨k, rfl⟩ : ∃ q, k = q + 1 + 1 := ⟨k - 2, by omega⟩
      rw [specF, implF, if_pos ht, if_pos ht, if_pos (by simp)]
      refine ⟨?_, ?_⟩
      · rw [spec_Shares.j0, if_neg (by simp), spec_Shares.l0, if_neg (by simp), if_pos rfl]
      · rw [impl_Shares.j0, if_pos rfl]
    · by_cases h200 : (w.length : Int) > 200
      · refine ⟨[], Nat.zero_le _, fun k hk => ?_⟩
        obtain ⟨k, rfl⟩ : ∃ q, k = q + 1 := ⟨k - 1, by omega⟩
        rw [specF, implF, if_pos ht, if_pos ht, if_neg (by omega)]
        refine ⟨?_, ?_⟩
        · rw [spec_Shares.j0, if_pos (by simpa using h200)]
        · rw [impl_Shares.j0, if_pos (by simpa using h200)]
      · have hl2 : w.length ≤ 200 := by omega
        have pre : ∀ k, spec_Shares.f (k + 1) t w = spec_Shares.l0 k t w [] 0 0 ∧ impl_Shares.f (k + 1) t w = impl_Shares.l0 k t w w (w.length : Int) 0 := by
          intro k
          rw [specF, implF, if_pos ht, if_pos ht, if_neg (by omega)]
          refine ⟨?_, ?_⟩
          · rw [spec_Shares.j0, if_neg (by simpa using h200)]
          · rw [impl_Shares.j0, if_neg (by simpa using h200)]
        by_cases hw : okW w
        · have mid : ∀ k, 1000000 ≤ k → ∃ k', 100000 ≤ k' ∧ spec_Shares.l0 k t w [] 0 0 = (if fsum (fun j => rd w j) w.length = 0 then some [] else spec_Shares.l1 k' t w [] (fsum (fun j => rd w j) w.length) [] t 0) ∧ impl_Shares.l0 k t w w (w.length : Int) 0 = (if fsum (fun j => rd w j) w.length = 0 then some [] else impl_Shares.l1 k' t (fsum (fun j => rd w j) w.length) (List.replicate w.length 0) (List.replicate w.length z79) w (w.length : Int) 0) := by
            intro k hk
            have e1 := specL0_ok t w [] hw hl2 w.length 0 (k - w.length) (by omega)
            have e2 := implL0_ok t w hw hl2 w.length 0 (k - w.length) (by omega)
            rw [show k - w.length + w.length = k by omega] at e1 e2
            rw [show fsum (fun j => rd w j) 0 = 0 from rfl] at e1
            replace e1 : spec_Shares.l0 k t w [] 0 0 = _ := e1
            replace e2 : impl_Shares.l0 k t w w (w.length : Int) 0 = _ := e2
            obtain ⟨k', hk'⟩ : ∃ q, k - w.length = q + 1 := ⟨k - w.length - 1, by omega⟩
            have hsum := sumOf_eq w hl2 (fun j hj => by have := hw j hj; omega) k' (by omega)
            refine ⟨k', by omega, ?_, ?_⟩
            · rw [e1, hk', spec_Shares.l0, if_neg (by omega)]
            · rw [e2, hk', impl_Shares.l0, if_neg (by omega), hsum]
              simp only [Option.bind_some]
              by_cases hz : fsum (fun j => rd w j) w.length = 0
              · rw [if_pos hz, if_pos hz]
              · rw [if_neg hz, if_neg hz, if_pos (by omega), Int.toNat_natCast, if_pos (by omega), if_pos (by omega)]
          by_cases hz : fsum (fun j => rd w j) w.length = 0
          · refine ⟨[], Nat.zero_le _, fun k hk => ?_⟩
            obtain ⟨k, rfl⟩ : ∃ q, k = q + 1 := ⟨k - 1, by omega⟩
            obtain ⟨k', _, e1, e2⟩ := mid k (by omega)
            rw [(pre k).1, (pre k).2, e1, e2, if_pos hz, if_pos hz]
            exact ⟨rfl, rfl⟩
          · have hge := (fsum_ge (fun j => rd w j) w.length (fun j hj => (hw j hj).1)).1
            obtain ⟨r, r1, r2⟩ := sharesAll t _ w ⟨ht, hw, hl2, rfl, by omega⟩ (by omega)
            refine ⟨r, by omega, fun k hk => ?_⟩
            obtain ⟨k, rfl⟩ : ∃ q, k = q + 1 := ⟨k - 1, by omega⟩
            obtain ⟨k', hk', e1, e2⟩ := mid k (by omega)
            rw [(pre k).1, (pre k).2, e1, e2, if_neg hz, if_neg hz]
            exact r2 k' hk'
        · have hbad : ∃ j, 0 ≤ j ∧ j < w.length ∧ ¬ (0 ≤ rd w (j : Nat) ∧ rd w (j : Nat) ≤ 10000000) := by
            apply Classical.byContradiction
            intro hn
            refine hw (fun j hj => ?_)
            apply Classical.byContradiction
            intro h3
            exact hn ⟨j, by omega, hj, h3⟩
          refine ⟨[], Nat.zero_le _, fun k hk => ?_⟩
          obtain ⟨k, rfl⟩ : ∃ q, k = q + 1 := ⟨k - 1, by omega⟩
          rw [(pre k).1, (pre k).2]
          exact ⟨specL0_bad t w [] hl2 w.length 0 k 0 (by omega) (by omega) hbad, implL0_bad t w hl2 w.length 0 k (by omega) (by omega) hbad⟩
  · refine ⟨[], Nat.zero_le _, fun k hk => ?_⟩
    obtain ⟨k, rfl⟩ : ∃ q, k = q + 1 := ⟨k - 1, by omega⟩
    rw [specF, implF, if_neg ht, if_neg ht]
    refine ⟨?_, ?_⟩
    · rw [spec_Shares.j0, if_pos rfl]
    · rw [impl_Shares.j0, if_pos rfl]
theorem FnExactShares : laws_FnExactShares.Pure := by
  intro t w _ h1 _ _
  rw [maxLen_eq] at h1
  obtain ⟨k, hk⟩ : ∃ k, k = 4000003 := ⟨_, rfl⟩
  refine ⟨k, ?_⟩
  unfold laws_FnExactShares.f
  by_cases hc1 : (w.length : Int) > 1048576
  · rw [if_pos hc1]
  · rw [if_neg hc1]
    obtain ⟨V, v1, v23⟩ := shares_same t w (by omega)
    have v2 := (v23 k (by omega)).1
    have v3 := (v23 k (by omega)).2
    rw [toIntS_eq w (by omega) _ (by omega)]
    simp only [Option.bind_some]
    rw [v2]
    simp only [Option.bind_some]
    rw [v3]
    simp only [Option.bind_some]
    rw [eqIntS_refl V (by omega) _ (by omega)]
    simp only [Option.bind_some, if_true]
    rw [eqIntS_refl w (by omega) _ (by omega)]
    simp only [Option.bind_some, if_true]
    obtain ⟨M1, m1, m2, m3⟩ := markIntS_eq w 1 (by omega) (by omega) k (by omega)
    rw [m1]
    simp only [Option.bind_some]
    rw [if_neg (by omega)]
    obtain ⟨k2, hk2⟩ : ∃ q, k = q + 1 := ⟨k - 1, by omega⟩
    rw [hk2, laws_FnExactShares.j0]
    have hW : impl_Shares.f k2 t w = some V := (v23 k2 (by omega)).2
    obtain ⟨M3, m7, m8, m9⟩ := markIntS_eq V 1 (by omega) (by omega) k2 (by omega)
    rw [if_neg (by simp), m7]
    simp only [Option.bind_some]
    rw [heldIntS_eq M3 V.length 1 (by omega) (by omega) m8 m9 _ (by omega)]
    simp only [Option.bind_some]
    rw [if_neg (by omega), if_pos trivial, toIntS_eq w (by omega) _ (by omega)]
    simp only [Option.bind_some]
    rw [hW]
    simp only [Option.bind_some]
    rw [eqIntS_refl V (by omega) _ (by omega)]
    simp only [Option.bind_some, if_true]
    rw [if_neg (by omega)]

end Go.Proofs.Ytdnfagcnojnmiaa.Pure
