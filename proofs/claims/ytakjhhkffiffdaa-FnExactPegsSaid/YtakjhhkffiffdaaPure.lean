/-
  The plain law: what impl.Pegs sends is what the reference tells; the small functions of the law at lists.
-/
import Derived.Test.YtakjhhkffiffdaaPegs0
set_option linter.unusedVariables false
set_option linter.unusedSimpArgs false
namespace Go.Proofs.Ytakjhhkffiffdaa
open Go.RowKit Go.Proofs.YtakjhhkffiffdaaW.PrintWords Go.Proofs.Ytakjhhkffiffdaa.PFnExactPegs

theorem w64 {x : Int} (h0 : -9223372036854775808 ≤ x) (h1 : x ≤ 9223372036854775807) : wrap64 x = x := by
  unfold wrap64; omega
theorem w64i {i n : Nat} (h : i < n) (hn : n ≤ 9223372036854775807) : wrap64 ((i : Int) + 1) = ((i + 1 : Nat) : Int) := by
  unfold wrap64; omega
theorem rd_at {l : List Int} {i : Nat} (h : i < l.length) : rd l (i : Int) = l[i] := by
  unfold rd
  rw [Int.toNat_natCast, List.getD_eq_getElem?_getD, List.getElem?_eq_getElem h]; rfl
theorem two_dec (p q : Prop) [Decidable p] [Decidable q] : (if p then some (decide q) else some false) = some (decide (p ∧ q)) := by
  by_cases hp : p
  · rw [if_pos hp]; simp [hp]
  · rw [if_neg hp]; simp [hp]

/-! ### the guards -/
theorem l1In_eq (a b c : Int) : spec_l1In.f a b c = some (decide (b ≤ a ∧ a ≤ c)) := by unfold spec_l1In.f; exact two_dec (a ≥ b) (a ≤ c)
theorem between_eq (a b c : Int) : impl_between.f a b c = some (decide (b ≤ a ∧ a ≤ c)) := by unfold impl_between.f; exact two_dec (a ≥ b) (a ≤ c)
theorem l12Qty_eq (a : Int) : spec_l12Qty.f a = some (decide (0 ≤ a ∧ a ≤ 1000000)) := by unfold spec_l12Qty.f; rw [l1In_eq]; rfl
theorem quantity_eq (a : Int) : impl_quantity.f a = some (decide (0 ≤ a ∧ a ≤ 1000000)) := by unfold impl_quantity.f; rw [between_eq]; rfl

def okq (x : Int) : Bool := decide (0 ≤ x ∧ x ≤ 1000000)

theorem l18_loop (l : List Int) (hl : l.length ≤ 4000000) : ∀ (d i k : Nat), i + d = l.length → d < k → spec_l18List.l0 k l (i : Int) = some ((l.drop i).all okq) := by
  intro d
  induction d with
  | zero =>
    intro i k hi hk
    obtain ⟨k, rfl⟩ : ∃ m, k = m + 1 := ⟨k - 1, by omega⟩
    simp only [spec_l18List.l0]
    rw [if_neg (by omega), List.drop_eq_nil_of_le (by omega)]
    rfl
  | succ d ih =>
    intro i k hi hk
    obtain ⟨k, rfl⟩ : ∃ m, k = m + 1 := ⟨k - 1, by omega⟩
    have hlt : i < l.length := by omega
    simp only [spec_l18List.l0]
    rw [if_pos (by omega), if_pos (by omega), rd_at hlt, l12Qty_eq, Option.bind_some, List.drop_eq_getElem_cons hlt, List.all_cons, w64i hlt (by omega), ih (i + 1) k (by omega) (by omega)]
    by_cases hq : 0 ≤ l[i] ∧ l[i] ≤ 1000000
    · simp [okq, hq]
    · simp [okq, hq]
theorem l18_eq (l : List Int) (hl : l.length ≤ 4000000) (k : Nat) (hk : l.length < k) : spec_l18List.f k l = some (decide (1 ≤ l.length ∧ l.length ≤ 40) && l.all okq) := by
  unfold spec_l18List.f
  rw [l1In_eq, Option.bind_some]
  have h := l18_loop l hl l.length 0 k (by omega) hk
  by_cases hc : 1 ≤ l.length ∧ l.length ≤ 40
  · rw [decide_eq_true (show (1 : Int) ≤ (l.length : Int) ∧ (l.length : Int) ≤ 40 by omega), if_pos rfl, decide_eq_true hc, Bool.true_and]
    simpa using h
  · rw [decide_eq_false (show ¬ ((1 : Int) ≤ (l.length : Int) ∧ (l.length : Int) ≤ 40) by omega), if_neg (by simp), decide_eq_false hc, Bool.false_and]

theorem listOk_loop (l : List Int) (hl : l.length ≤ 4000000) : ∀ (d i k : Nat), i + d = l.length → d < k → impl_listOk.l0 k l (l.length : Int) (i : Int) = some ((l.drop i).all okq) := by
  intro d
  induction d with
  | zero =>
    intro i k hi hk
    obtain ⟨k, rfl⟩ : ∃ m, k = m + 1 := ⟨k - 1, by omega⟩
    simp only [impl_listOk.l0]
    rw [if_neg (by omega), List.drop_eq_nil_of_le (by omega)]
    rfl
  | succ d ih =>
    intro i k hi hk
    obtain ⟨k, rfl⟩ : ∃ m, k = m + 1 := ⟨k - 1, by omega⟩
    have hlt : i < l.length := by omega
    simp only [impl_listOk.l0]
    rw [if_pos (by omega), if_pos (by omega), if_pos (by omega), rd_at hlt, quantity_eq, Option.bind_some, List.drop_eq_getElem_cons hlt, List.all_cons, w64i hlt (by omega), ih (i + 1) k (by omega) (by omega)]
    by_cases hq : 0 ≤ l[i] ∧ l[i] ≤ 1000000
    · simp [okq, hq]
    · simp [okq, hq]
theorem listOk_eq (l : List Int) (hl : l.length ≤ 4000000) (n k : Nat) (hk : l.length + 1 < k) : impl_listOk.f k l (n : Int) = some (decide (1 ≤ n ∧ n ≤ 40) && decide (l.length = n) && l.all okq) := by
  unfold impl_listOk.f
  rw [between_eq, Option.bind_some]
  obtain ⟨k, rfl⟩ : ∃ m, k = m + 1 := ⟨k - 1, by omega⟩
  have h := listOk_loop l hl l.length 0 k (by omega) (by omega)
  by_cases hc : 1 ≤ n ∧ n ≤ 40
  · rw [decide_eq_true (show (1 : Int) ≤ (n : Int) ∧ (n : Int) ≤ 40 by omega), if_pos rfl, decide_eq_true hc, Bool.true_and]
    simp only [impl_listOk.j0]
    by_cases he : l.length = n
    · rw [if_neg (by simp [he]), decide_eq_true he, Bool.true_and]
      simpa using h
    · rw [if_pos (by simp; omega), decide_eq_false he, Bool.false_and]
  · rw [decide_eq_false (show ¬ ((1 : Int) ≤ (n : Int) ∧ (n : Int) ≤ 40) by omega), if_neg (by simp), decide_eq_false hc, Bool.false_and, Bool.false_and]
    simp only [impl_listOk.j0, if_true]

/-! ### the process comes to an end -/
def meas (ns os : List Int) (lev b : Nat) (n : Int) (o : Nat) (left : Int) : Nat :=
  10 * (ns.length - b) + 10 * (os.length - o) + (if 0 < left then 5 else 0) + (match lev with | 0 => 9 | 1 => (if 0 < n then 5 else 0) | _ => 4)

theorem PR_ex (ns os : List Int) (hns : ∀ (i : Nat) (x : Int), ns[i]? = some x → 0 ≤ x ∧ x ≤ 1000000) (hos : ∀ (i : Nat) (x : Int), os[i]? = some x → 0 ≤ x ∧ x ≤ 1000000) :
    ∀ (M lev b : Nat) (n : Int) (o : Nat) (left : Int), meas ns os lev b n o left ≤ M → b ≤ ns.length → o ≤ os.length → 0 ≤ left → left ≤ 1000000 → (lev ≠ 0 → b < ns.length ∧ n ≤ 1000000) → (2 ≤ lev → lev = 2 ∧ 0 < n) →
      ∃ out bad, PR ns os lev b n o left out bad ∧ out.length ≤ M ∧ ∀ p ∈ out, p.f0 ≠ -2 := by
  intro M
  induction M with
  | zero =>
    intro lev b n o left hM hb ho h0 h6 hl h2
    exfalso
    match lev, hM, hl, h2 with
    | 0, hM, hl, h2 => simp only [meas] at hM; omega
    | 1, hM, hl, h2 => have := (hl (by simp)).1; simp only [meas] at hM; omega
    | lev + 2, hM, hl, h2 => simp only [meas] at hM; omega
  | succ M ih =>
    intro lev b n o left hM hb ho h0 h6 hl h2
    match lev, hM, hl, h2 with
    | 0, hM, hl, h2 =>
      by_cases hbl : b = ns.length
      · exact ⟨[], false, .fin hbl, by simp, by simp⟩
      · have hlt : b < ns.length := by omega
        have hx : ns[b]? = some (ns.getD b 0) := by rw [List.getD_eq_getElem?_getD, List.getElem?_eq_getElem hlt]; rfl
        have hr := hns b _ hx
        obtain ⟨out, bad, h1, h3, h4⟩ := ih 1 b (ns.getD b 0) o left (by simp only [meas] at hM ⊢; split <;> split at hM <;> split <;> omega) hb ho h0 h6 (fun _ => ⟨hlt, hr.2⟩) (fun h => by omega)
        exact ⟨out, bad, .need hlt h1, by omega, h4⟩
    | 1, hM, hl, h2 =>
      obtain ⟨hlt, hn6⟩ := hl (by simp)
      by_cases hn : 0 < n
      · obtain ⟨out, bad, h1, h3, h4⟩ := ih 2 b n o left (by simp only [meas, if_pos hn] at hM ⊢; omega) hb ho h0 h6 (fun _ => ⟨hlt, hn6⟩) (fun _ => ⟨rfl, hn⟩)
        exact ⟨out, bad, .more hn h1, by omega, h4⟩
      · obtain ⟨out, bad, h1, h3, h4⟩ := ih 0 (b + 1) n o left (by simp only [meas, if_neg hn] at hM ⊢; omega) (by omega) ho h0 h6 (fun h => absurd rfl h) (fun h => by omega)
        exact ⟨out, bad, .done hlt (by omega) h1, by omega, h4⟩
    | lev + 2, hM, hl, h2 =>
      obtain ⟨hlev, hn⟩ := h2 (by omega)
      obtain ⟨hlt, hn6⟩ := hl (by simp)
      obtain rfl : lev = 0 := by omega
      simp only [meas] at hM
      by_cases hz : left = 0
      · subst hz
        by_cases hoo : o < os.length
        · have hx : os[o]? = some (os.getD o 0) := by rw [List.getD_eq_getElem?_getD, List.getElem?_eq_getElem hoo]; rfl
          have hr := hos o _ hx
          obtain ⟨out, bad, h1, h3, h4⟩ := ih 2 b n (o + 1) (os.getD o 0) (by simp only [meas]; simp only [Int.lt_irrefl, if_false] at hM; split <;> omega) hb (by omega) hr.1 hr.2 (fun _ => ⟨hlt, hn6⟩) (fun _ => ⟨rfl, hn⟩)
          exact ⟨out, bad, .skip hoo h1, by omega, h4⟩
        · exact ⟨[], true, .lack hoo, by simp, by simp⟩
      · have hpos : 0 < left := by omega
        rw [if_pos hpos] at hM
        by_cases hbo : b + 1 < o
        · exact ⟨[], true, .late hz hbo, by simp, by simp⟩
        · by_cases hlt2 : left < n
          · obtain ⟨out, bad, h1, h3, h4⟩ := ih 1 b (n - left) o 0 (by simp only [meas, Int.lt_irrefl, if_false, if_pos (show 0 < n - left by omega)]; omega) hb ho (by omega) (by omega) (fun _ => ⟨hlt, by omega⟩) (fun h => by omega)
            exact ⟨_, bad, .less hpos hn6 hlt2 hbo h1, by simp only [List.length_cons]; omega, fun p hp => by
              rcases List.mem_cons.1 hp with rfl | hp
              · show (o : Int) - 1 ≠ -2
                omega
              · exact h4 p hp⟩
          · obtain ⟨out, bad, h1, h3, h4⟩ := ih 1 b 0 o (left - n) (by simp only [meas, Int.lt_irrefl, if_false]; split <;> omega) hb ho (by omega) (by omega) (fun _ => ⟨hlt, by omega⟩) (fun h => by omega)
            exact ⟨_, bad, .full hn h6 hlt2 hbo h1, by simp only [List.length_cons]; omega, fun p hp => by
              rcases List.mem_cons.1 hp with rfl | hp
              · show (o : Int) - 1 ≠ -2
                omega
              · exact h4 p hp⟩

/-! ### the reference does the same -/
def specAt (lev k : Nat) (ns os : List Int) (acc : List S34) (fr left b n : Int) : Option (List S34) :=
  match lev with
  | 0 => spec_Pegs.l0 k ns os acc fr left b
  | 1 => spec_Pegs.l1 k ns os acc fr left b n
  | _ => spec_Pegs.l2 k ns os acc fr left b n

theorem spec_PR {ns os : List Int} (hlen : os.length = ns.length) (hn : ns.length ≤ 1000) {lev b : Nat} {n : Int} {o : Nat} {left : Int} {out : List S34} {bad : Bool} (h : PR ns os lev b n o left out bad) :
    ∀ acc : List S34, acc.length + out.length ≤ 1000000 → b ≤ ns.length → o ≤ os.length → ∃ k0, ∀ k, k0 ≤ k → specAt lev k ns os acc ((o : Int) - 1) left b n = some (if bad then [] else acc ++ out) := by
  induction h with
  | fin h =>
    intro acc ha hb ho
    refine ⟨1, fun k hk => ?_⟩
    obtain ⟨k, rfl⟩ : ∃ m, k = m + 1 := ⟨k - 1, by omega⟩
    simp only [specAt, spec_Pegs.l0]
    rw [if_neg (by omega)]
    simp
  | @need b n o left out bad h hr ih =>
    intro acc ha hb ho
    obtain ⟨k0, hk0⟩ := ih acc ha hb ho
    refine ⟨k0 + 1, fun k hk => ?_⟩
    obtain ⟨k, rfl⟩ : ∃ m, k = m + 1 := ⟨k - 1, by omega⟩
    simp only [specAt, spec_Pegs.l0]
    rw [if_pos (by omega), if_pos (by omega), ← hk0 k (by omega), rd_at h]
    simp [specAt, List.getD, List.getElem?_eq_getElem h]
  | done hb' h hr ih =>
    intro acc ha hb ho
    obtain ⟨k0, hk0⟩ := ih acc ha (by omega) ho
    refine ⟨k0 + 1, fun k hk => ?_⟩
    obtain ⟨k, rfl⟩ : ∃ m, k = m + 1 := ⟨k - 1, by omega⟩
    simp only [specAt, spec_Pegs.l1]
    rw [if_neg (by omega), w64i hb' (by omega)]
    exact hk0 k (by omega)
  | more h hr ih =>
    intro acc ha hb ho
    obtain ⟨k0, hk0⟩ := ih acc ha hb ho
    refine ⟨k0 + 1, fun k hk => ?_⟩
    obtain ⟨k, rfl⟩ : ∃ m, k = m + 1 := ⟨k - 1, by omega⟩
    simp only [specAt, spec_Pegs.l1]
    rw [if_pos (by omega)]
    exact hk0 k (by omega)
  | @skip b n o out bad h hr ih =>
    intro acc ha hb ho
    obtain ⟨k0, hk0⟩ := ih acc ha hb (by omega)
    refine ⟨k0 + 1, fun k hk => ?_⟩
    obtain ⟨k, rfl⟩ : ∃ m, k = m + 1 := ⟨k - 1, by omega⟩
    have e1 : wrap64 ((o : Int) - 1 + 1) = (o : Int) := by rw [w64] <;> omega
    have e2 : wrap64 ((os.length : Int) - 1) = (os.length : Int) - 1 := by rw [w64] <;> omega
    have e3 : ((o + 1 : Nat) : Int) - 1 = (o : Int) := by omega
    have := hk0 k (by omega)
    simp only [specAt, spec_Pegs.l2, e1, e2]
    rw [if_pos trivial, if_pos (by omega), if_pos (by omega), if_pos (by omega), rd_at h, ← this]
    simp [specAt, e3, List.getD, List.getElem?_eq_getElem h]
  | @late b n o left h hb' =>
    intro acc ha hb ho
    refine ⟨3, fun k hk => ?_⟩
    obtain ⟨k, rfl⟩ : ∃ m, k = m + 3 := ⟨k - 3, by omega⟩
    simp only [specAt, spec_Pegs.l2]
    rw [if_neg h]
    simp only [spec_Pegs.j4]
    rw [if_neg h]
    simp only [spec_Pegs.j5]
    rw [if_pos (by simp; omega)]
    rfl
  | @lack b n o h =>
    intro acc ha hb ho
    refine ⟨3, fun k hk => ?_⟩
    obtain ⟨k, rfl⟩ : ∃ m, k = m + 3 := ⟨k - 3, by omega⟩
    have e2 : wrap64 ((os.length : Int) - 1) = (os.length : Int) - 1 := by rw [w64] <;> omega
    simp only [specAt, spec_Pegs.l2, e2]
    rw [if_pos trivial, if_neg (by omega)]
    simp only [spec_Pegs.j4, if_true, spec_Pegs.j5]
  | @less b n o left out bad h hn6 hlt hb' hr ih =>
    intro acc ha hb ho
    simp only [List.length_cons] at ha
    obtain ⟨k0, hk0⟩ := ih (acc ++ [⟨(o : Int) - 1, b, left⟩]) (by simp; omega) hb ho
    refine ⟨k0 + 3, fun k hk => ?_⟩
    obtain ⟨k, rfl⟩ : ∃ m, k = m + 3 := ⟨k - 3, by omega⟩
    have e1 : wrap64 (left - left) = 0 := by rw [w64] <;> omega
    have e2 : wrap64 (n - left) = n - left := by rw [w64] <;> omega
    simp only [specAt, spec_Pegs.l2]
    rw [if_neg (by omega)]
    simp only [spec_Pegs.j4]
    rw [if_neg (by omega)]
    simp only [spec_Pegs.j5]
    rw [if_neg (by simp; omega), if_pos hlt, if_pos (by omega), e1, e2]
    have := hk0 k (by omega)
    simp only [specAt] at this
    rw [this]
    simp
  | @full b n o left out bad h hl6 hlt hb' hr ih =>
    intro acc ha hb ho
    simp only [List.length_cons] at ha
    obtain ⟨k0, hk0⟩ := ih (acc ++ [⟨(o : Int) - 1, b, n⟩]) (by simp; omega) hb ho
    refine ⟨k0 + 3, fun k hk => ?_⟩
    obtain ⟨k, rfl⟩ : ∃ m, k = m + 3 := ⟨k - 3, by omega⟩
    have e1 : wrap64 (n - n) = 0 := by rw [w64] <;> omega
    have e2 : wrap64 (left - n) = left - n := by rw [w64] <;> omega
    simp only [specAt, spec_Pegs.l2]
    rw [if_neg (by omega)]
    simp only [spec_Pegs.j4]
    rw [if_neg (by omega)]
    simp only [spec_Pegs.j5]
    rw [if_neg (by simp; omega), if_neg hlt, if_pos (by omega), e1, e2]
    have := hk0 k (by omega)
    simp only [specAt] at this
    rw [this]
    simp
end Go.Proofs.Ytakjhhkffiffdaa
