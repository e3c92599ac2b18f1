/- Net covers every need down to the safety stock, with no more than is wanted, at every drawn case. Conditions: none. -/
import Derived.Test.YtegkhdobjcdfnaePFnNetCoveredx0
import Derived.Test.YtegkhdobjcdfnaePFnNetCoveredx1
import Derived.Test.YtegkhdobjcdfnaePFnNetCoveredx2
import Derived.Test.YtegkhdobjcdfnaePFnNetCoveredx3
import Derived.Test.YtegkhdobjcdfnaePFnNetCoveredx4
import Derived.Test.YtegkhdobjcdfnaePureAid
import Derived.Test.YtegkhdobjcdfnaeWMore
namespace Go.Proofs.Ytegkhdobjcdfnae.Pure
open Go Go.RowKit Go.Proofs.Ytegkhdobjcdfnae.PFnNetCovered Go.Proofs.YtegkhdobjcdfnaeW.PrintWords Go.Proofs.YtegkhdobjcdfnaeW.PrintLast Go.Proofs.Ytegkhdobjcdfnae.Aid
set_option linter.unusedVariables false
set_option linter.unusedSimpArgs false
set_option maxRecDepth 100000
theorem two_dec (a b : Prop) [Decidable a] [Decidable b] : (if a then some (decide b) else some false) = some (decide (a ∧ b)) := by
  by_cases h : a
  · rw [if_pos h]; congr 1; rw [decide_eq_decide]; exact ⟨fun hb => ⟨h, hb⟩, fun hb => hb.2⟩
  · rw [if_neg h]; congr 1; symm; rw [decide_eq_false_iff_not]; exact fun hb => h hb.1

theorem l1In_eq (a b c : Int) : spec_l1In.f a b c = some (decide (b ≤ a ∧ a ≤ c)) := by unfold spec_l1In.f; exact two_dec (a ≥ b) (a ≤ c)

theorem l12Qty_eq (a : Int) : spec_l12Qty.f a = some (decide (0 ≤ a ∧ a ≤ 1000000)) := by unfold spec_l12Qty.f; rw [l1In_eq]; rfl

theorem between_eq (a b c : Int) : impl_between.f a b c = some (decide (b ≤ a ∧ a ≤ c)) := by unfold impl_between.f; exact two_dec (a ≥ b) (a ≤ c)

theorem quantity_eq (a : Int) : impl_quantity.f a = some (decide (0 ≤ a ∧ a ≤ 1000000)) := by unfold impl_quantity.f; rw [between_eq]; rfl

def qtyB (x : Int) : Bool := decide (0 ≤ x ∧ x ≤ 1000000)
def qtyStop (l : List Int) (i : Nat) : Option Bool := if qtyB (rd l i) = true then none else some false
/-- A list of quantities, one a bucket. -/
def bucketB (l : List Int) : Bool := decide (1 ≤ l.length ∧ l.length ≤ 40) && scan (qtyStop l) true l.length 0
theorem bucketB_all (l : List Int) (h : bucketB l = true) : (1 ≤ l.length ∧ l.length ≤ 40) ∧ ∀ j, j < l.length → 0 ≤ rd l (j : Nat) ∧ rd l (j : Nat) ≤ 1000000 := by
  unfold bucketB at h
  rw [Bool.and_eq_true, decide_eq_true_eq] at h
  refine ⟨h.1, fun j hj => ?_⟩
  have h2 := (scan_all (p := fun j => qtyB (rd l (j : Nat))) l.length 0).1 h.2 j (by omega) (by omega)
  unfold qtyB at h2
  rw [decide_eq_true_eq] at h2
  exact h2
theorem l18List_eq (l : List Int) (hl : l.length ≤ 9223372036854775807) (k : Nat) (hk : l.length + 1 ≤ k) : spec_l18List.f k l = some (bucketB l) := by
  unfold spec_l18List.f bucketB
  rw [l1In_eq]
  simp only [Option.bind_some, decide_eq_true_eq]
  by_cases h1 : 1 ≤ (l.length : Int) ∧ (l.length : Int) ≤ 40
  · rw [if_pos h1, decide_eq_true (show 1 ≤ l.length ∧ l.length ≤ 40 by omega)]
    simp only [Bool.true_and]
    refine loop_scanM0 (fun k i => spec_l18List.l0 k l i) l.length 0 1 (qtyStop l) true ?_ ?_ k (by omega)
    · intro k i _ hi
      simp only [spec_l18List.l0]
      rw [if_pos (by omega), if_pos (by omega), w64i hi hl, l12Qty_eq]
      simp only [Option.bind_some]
      unfold qtyStop qtyB
      cases decide (0 ≤ rd l i ∧ rd l i ≤ 1000000) <;> rfl
    · intro k _
      simp only [spec_l18List.l0]
      rw [if_neg (by omega)]
  · rw [if_neg h1, decide_eq_false (by omega)]; rfl
theorem listOk_eq (l : List Int) (n : Nat) (hl : l.length ≤ 9223372036854775807) (k : Nat) (hk : l.length + 3 ≤ k) : impl_listOk.f k l (n : Int) = some (decide ((l.length : Int) = (n : Int)) && bucketB l) := by
  obtain ⟨k, rfl⟩ : ∃ m, k = m + 1 := ⟨k - 1, by omega⟩
  unfold impl_listOk.f bucketB
  rw [between_eq]
  by_cases he : (l.length : Int) = (n : Int)
  · have e : ((l.length : Int) != (n : Int)) = false := by rw [he]; simp
    simp only [Option.bind_some, decide_eq_true_eq, impl_listOk.j0, if_true, e]
    rw [decide_eq_true he, Bool.true_and, ← he]
    by_cases h1 : 1 ≤ (l.length : Int) ∧ (l.length : Int) ≤ 40
    · rw [if_pos h1, decide_eq_true (show 1 ≤ l.length ∧ l.length ≤ 40 by omega), if_neg (by simp)]
      simp only [Bool.true_and]
      refine loop_scanM0 (fun k i => impl_listOk.l0 k l (l.length : Int) i) l.length 0 1 (qtyStop l) true ?_ ?_ k (by omega)
      · intro k i _ hi
        simp only [impl_listOk.l0]
        rw [if_pos (by omega), if_pos (by omega), if_pos (by omega), w64i hi hl, quantity_eq]
        simp only [Option.bind_some]
        unfold qtyStop qtyB
        cases decide (0 ≤ rd l i ∧ rd l i ≤ 1000000) <;> rfl
      · intro k _
        simp only [impl_listOk.l0]
        rw [if_neg (by omega)]
    · rw [if_neg h1, decide_eq_false (by omega)]; rfl
  · have e : ((l.length : Int) != (n : Int)) = true := by simpa using he
    simp only [Option.bind_some, decide_eq_true_eq, impl_listOk.j0, if_true, e]
    rw [decide_eq_false he, Bool.false_and]
    split <;> rfl

def netStep (ns cs : List Int) (sf : Int) (i : Nat) (s : Int × List Int) : (List Int × Bool) ⊕ (Int × List Int) :=
  if s.1 + rd cs i - rd ns i < sf then (if sf - (s.1 + rd cs i - rd ns i) ≤ 1000000 then .inr (sf, s.2 ++ [sf - (s.1 + rd cs i - rd ns i)]) else .inl ([], false))
  else (if s.1 + rd cs i - rd ns i ≤ 1000000 then .inr (s.1 + rd cs i - rd ns i, s.2 ++ [0]) else .inl ([], false))
def netTail (ns cs : List Int) (h sf : Int) : List Int × Bool := foldS (netStep ns cs sf) (fun s => (s.2, true)) ns.length 0 (h, [])
def netInv (i : Nat) (s : Int × List Int) : Prop := 0 ≤ s.1 ∧ s.1 ≤ 1000000 ∧ s.2.length = i
theorem netInv_step (ns cs : List Int) (sf : Int) (h0 : 0 ≤ sf) (h1 : sf ≤ 1000000) (i : Nat) (s s' : Int × List Int) (hI : netInv i s) (h : netStep ns cs sf i s = .inr s') : netInv (i + 1) s' := by
  unfold netStep at h
  unfold netInv at hI ⊢
  split at h
  · split at h
    · injection h with h
      subst h
      exact ⟨by omega, by omega, by simp [hI.2.2]⟩
    · cases h
  · split at h
    · injection h with h
      subst h
      exact ⟨by dsimp only; omega, by dsimp only; omega, by simp [hI.2.2]⟩
    · cases h
theorem netSpec_loop (ns cs x : List Int) (h sf : Int) (hh : 0 ≤ h ∧ h ≤ 1000000) (hs : 0 ≤ sf ∧ sf ≤ 1000000) (he : cs.length = ns.length) (hl : ns.length ≤ 40) (hn : ∀ j, j < ns.length → 0 ≤ rd ns (j : Nat) ∧ rd ns (j : Nat) ≤ 1000000) (hc : ∀ j, j < cs.length → 0 ≤ rd cs (j : Nat) ∧ rd cs (j : Nat) ≤ 1000000) (hx : x = []) (k : Nat) (hk : 1000 ≤ k) :
    spec_Net.l0 k ns h sf cs x [] 0 = some (netTail ns cs h sf) := by
  refine loop_fold0 (fun k i s => spec_Net.l0 k ns s.1 sf cs x s.2 i) ns.length 0 2 (netStep ns cs sf) (fun s => (s.2, true)) netInv ?_ ?_ ?_ k (h, []) (by omega) ⟨hh.1, hh.2, rfl⟩
  · intro k i s _ hi hI
    unfold netInv at hI
    have a1 := hn i hi
    have a2 := hc i (by omega)
    have j2 : ∀ v m, spec_Net.j2 (k + 1) ns v sf cs x s.2 (i : Int) m = if (0 ≤ v ∧ v ≤ 1000000) ∧ (0 ≤ m ∧ m ≤ 1000000) then spec_Net.l0 k ns v sf cs x (s.2 ++ [m]) ((i + 1 : Nat) : Int) else some ([], false) := by
      intro v m
      simp only [spec_Net.j2, l12Qty_eq, Option.bind_some, decide_eq_true_eq]
      by_cases q1 : 0 ≤ v ∧ v ≤ 1000000
      · rw [if_pos q1]
        by_cases q2 : 0 ≤ m ∧ m ≤ 1000000
        · rw [if_pos q2, if_pos (by omega), if_pos ⟨q1, q2⟩, w64i hi (by omega)]
        · rw [if_neg q2, if_neg (fun q => q2 q.2), hx]
      · rw [if_neg q1, if_neg (fun q => q1 q.1), hx]
    simp only [spec_Net.l0]
    rw [if_pos (by omega), if_pos (by omega), if_pos (by omega), j2, j2]
    rw [w64 (x := s.1 + rd cs i) (by omega) (by omega), w64 (x := s.1 + rd cs i - rd ns i) (by omega) (by omega), w64 (x := sf - _) (by omega) (by omega)]
    unfold netStep
    by_cases q1 : s.1 + rd cs i - rd ns i < sf
    · rw [if_pos q1, if_pos q1]
      by_cases q2 : sf - (s.1 + rd cs i - rd ns i) ≤ 1000000
      · rw [if_pos (by omega), if_pos q2]; rfl
      · rw [if_neg (by omega), if_neg q2]; rfl
    · rw [if_neg q1, if_neg q1]
      by_cases q2 : s.1 + rd cs i - rd ns i ≤ 1000000
      · rw [if_pos (by omega), if_pos q2]; rfl
      · rw [if_neg (by omega), if_neg q2]; rfl
  · intro i s s' _ hI hst; exact netInv_step ns cs sf hs.1 hs.2 i s s' hI hst
  · intro k s _ _
    simp only [spec_Net.l0]
    rw [if_neg (by omega)]
theorem rep_succ (n i : Nat) (h : i < n) : List.replicate (n - i) (0 : Int) = 0 :: List.replicate (n - (i + 1)) 0 := by
  obtain ⟨d, hd⟩ : ∃ d, n - i = d + 1 := ⟨n - i - 1, by omega⟩
  rw [hd, show n - (i + 1) = d by omega, List.replicate_succ]
theorem set_mid (o : List Int) (r : List Int) (i : Nat) (v w : Int) (h : o.length = i) : (o ++ v :: r).set i w = (o ++ [w]) ++ r := by
  subst h
  induction o with
  | nil => rfl
  | cons x o ih => simp only [List.cons_append, List.length_cons, List.set_cons_succ, ih]
theorem rd_mid (o : List Int) (r : List Int) (i : Nat) (v : Int) (h : o.length = i) : rd (o ++ v :: r) (i : Int) = v := by
  unfold rd
  rw [getD_of (x := v)]
  rw [List.getElem?_append_right (by omega), h, Nat.sub_self]; rfl
theorem netImpl_loop (ns cs : List Int) (h sf : Int) (hh : 0 ≤ h ∧ h ≤ 1000000) (hs : 0 ≤ sf ∧ sf ≤ 1000000) (he : cs.length = ns.length) (hl : ns.length ≤ 40) (hn : ∀ j, j < ns.length → 0 ≤ rd ns (j : Nat) ∧ rd ns (j : Nat) ≤ 1000000) (hc : ∀ j, j < cs.length → 0 ≤ rd cs (j : Nat) ∧ rd cs (j : Nat) ≤ 1000000) (k : Nat) (hk : 1000 ≤ k) :
    impl_Net.l0 k ns sf cs (List.replicate ns.length 0) h (ns.length : Int) 0 = some (netTail ns cs h sf) := by
  refine loop_fold0 (fun k i s => impl_Net.l0 k ns sf cs (s.2 ++ List.replicate (ns.length - i.toNat) 0) s.1 (ns.length : Int) i) ns.length 0 1 (netStep ns cs sf) (fun s => (s.2, true)) netInv ?_ ?_ ?_ k (h, []) (by omega) ⟨hh.1, hh.2, rfl⟩
  · intro k i s _ hi hI
    unfold netInv at hI
    have a1 := hn i hi
    have a2 := hc i (by omega)
    simp only [impl_Net.l0, Int.toNat_natCast]
    rw [rep_succ ns.length i hi]
    have hz : (i : Int) < ((s.2 ++ 0 :: List.replicate (ns.length - (i + 1)) 0).length : Int) := by simp; omega
    rw [if_pos (by omega), if_pos (by omega), if_pos (by omega), if_pos (by omega), if_pos hz, if_pos hz]
    rw [w64 (x := rd cs i - rd ns i) (by omega) (by omega), w64 (x := s.1 + (rd cs i - rd ns i)) (by omega) (by omega), w64 (x := sf - _) (by omega) (by omega), w64i hi (by omega), set_mid _ _ _ _ _ hI.2.2]
    simp only [Option.bind_some]
    rw [List.append_assoc s.2, List.singleton_append, rd_mid _ _ _ _ hI.2.2, rd_mid _ _ _ _ hI.2.2]
    have e : s.1 + (rd cs i - rd ns i) = s.1 + rd cs i - rd ns i := by omega
    rw [e]
    unfold netStep
    by_cases q1 : s.1 + rd cs i - rd ns i < sf
    · rw [if_pos q1, if_pos q1]
      by_cases q2 : sf - (s.1 + rd cs i - rd ns i) ≤ 1000000
      · rw [if_neg (by omega), if_neg (by omega), if_pos q2]
        show _ = impl_Net.l0 k ns sf cs ((s.2 ++ [_]) ++ List.replicate (ns.length - (((i + 1 : Nat) : Int)).toNat) 0) sf (ns.length : Int) _
        rw [Int.toNat_natCast, List.append_assoc, List.singleton_append]
      · rw [if_pos (by omega), if_neg q2]; rfl
    · rw [if_neg q1, if_neg q1, if_neg (by omega)]
      by_cases q2 : s.1 + rd cs i - rd ns i ≤ 1000000
      · rw [if_neg (by omega), if_pos q2]
        show _ = impl_Net.l0 k ns sf cs ((s.2 ++ [0]) ++ List.replicate (ns.length - (((i + 1 : Nat) : Int)).toNat) 0) _ (ns.length : Int) _
        rw [Int.toNat_natCast, List.append_assoc, List.singleton_append]
      · rw [if_pos (by omega), if_neg q2]; rfl
  · intro i s s' _ hI hst; exact netInv_step ns cs sf hs.1 hs.2 i s s' hI hst
  · intro k s _ hI
    simp only [impl_Net.l0]
    rw [if_neg (by omega)]
    simp
def netVal (ns : List Int) (h sf : Int) (cs : List Int) : List Int × Bool := if ((bucketB ns && (bucketB cs && decide (ns.length = cs.length))) && (qtyB h && qtyB sf)) = true then netTail ns cs h sf else ([], false)
theorem netSpec_eq (ns : List Int) (h sf : Int) (cs : List Int) (h1 : ns.length ≤ 1048576) (h2 : cs.length ≤ 1048576) (k : Nat) (hk : 3000000 ≤ k) : spec_Net.f k ns h sf cs = some (netVal ns h sf cs) := by
  unfold spec_Net.f
  rw [l18List_eq ns (by omega) k (by omega), l18List_eq cs (by omega) k (by omega)]
  simp only [Option.bind_some, l12Qty_eq]
  obtain ⟨k, rfl⟩ : ∃ m, k = m + 1 := ⟨k - 1, by omega⟩
  have jb : ∀ b, spec_Net.j0 (k + 1) ns h sf cs [] b = if b = true then some ([], false) else spec_Net.l0 k ns h sf cs [] [] 0 := fun b => by simp only [spec_Net.j0]
  simp only [jb]
  unfold netVal
  cases hm : bucketB ns
  · simp
  · cases ho : bucketB cs
    · simp
    · have rm := bucketB_all ns hm
      have ro := bucketB_all cs ho
      by_cases he : ns.length = cs.length
      · by_cases q1 : qtyB h = true
        · by_cases q2 : qtyB sf = true
          · have e1 := q1
            have e2 := q2
            unfold qtyB at q1 q2
            rw [decide_eq_true_eq] at q1 q2
            rw [netSpec_loop ns cs [] h sf q1 q2 he.symm rm.1.2 rm.2 ro.2 rfl k (by omega), e1, e2, decide_eq_true q1, decide_eq_true q2, decide_eq_true he]
            simp [he]
          · have e2 := q2
            rw [Bool.not_eq_true] at e2
            rw [e2]
            unfold qtyB at q2
            rw [Bool.not_eq_true] at q2
            rw [q2]
            simp [he]
        · have e1 := q1
          rw [Bool.not_eq_true] at e1
          rw [e1]
          unfold qtyB at q1
          rw [Bool.not_eq_true] at q1
          rw [q1]
          simp [he]
      · rw [decide_eq_false he]
        have : ((ns.length : Int) = (cs.length : Int)) = False := eq_false (by omega)
        simp [this, he]
theorem netImpl_eq (ns : List Int) (h sf : Int) (cs : List Int) (h1 : ns.length ≤ 1048576) (h2 : cs.length ≤ 1048576) (k : Nat) (hk : 3000000 ≤ k) : impl_Net.f k ns h sf cs = some (netVal ns h sf cs) := by
  unfold impl_Net.f
  rw [listOk_eq ns ns.length (by omega) k (by omega), listOk_eq cs ns.length (by omega) k (by omega)]
  simp only [Option.bind_some, quantity_eq]
  obtain ⟨k, rfl⟩ : ∃ m, k = m + 1 := ⟨k - 1, by omega⟩
  have jb : ∀ b, impl_Net.j0 (k + 1) ns h sf cs b = if b = true then some ([], false) else impl_Net.l0 k ns sf cs (List.replicate ns.length 0) h (ns.length : Int) 0 := fun b => by
    simp only [impl_Net.j0]
    split
    · rfl
    · rw [if_pos (by omega), if_pos (by omega), Int.toNat_natCast]
  simp only [jb]
  unfold netVal
  cases hm : bucketB ns
  · simp
  · have rm := bucketB_all ns hm
    by_cases he : ns.length = cs.length
    · rw [decide_eq_true (show (cs.length : Int) = ns.length by omega), decide_eq_true he]
      cases ho : bucketB cs
      · simp
      · have ro := bucketB_all cs ho
        by_cases q1 : qtyB h = true
        · by_cases q2 : qtyB sf = true
          · have e1 := q1
            have e2 := q2
            unfold qtyB at q1 q2
            rw [decide_eq_true_eq] at q1 q2
            rw [netImpl_loop ns cs h sf q1 q2 he.symm rm.1.2 rm.2 ro.2 k (by omega), e1, e2, decide_eq_true q1, decide_eq_true q2]
            simp
          · have e2 := q2
            rw [Bool.not_eq_true] at e2
            rw [e2]
            unfold qtyB at q2
            rw [Bool.not_eq_true] at q2
            rw [q2]
            simp
        · have e1 := q1
          rw [Bool.not_eq_true] at e1
          rw [e1]
          unfold qtyB at q1
          rw [Bool.not_eq_true] at q1
          rw [q1]
          simp
    · rw [decide_eq_false (show ¬ (cs.length : Int) = ns.length by omega), decide_eq_false he]
      simp
theorem netVal_len (ns : List Int) (h sf : Int) (cs : List Int) (h1 : ns.length ≤ 1048576) : (netVal ns h sf cs).1.length ≤ 1048576 := by
  have key : ∀ (d i : Nat) (s : Int × List Int), s.2.length = i → (foldS (netStep ns cs sf) (fun s => (s.2, true)) d i s).1.length ≤ i + d := by
    intro d
    induction d with
    | zero => intro i s hs; unfold foldS; dsimp only; omega
    | succ d ih =>
      intro i s hs
      unfold foldS
      cases hst : netStep ns cs sf i s with
      | inl r =>
        unfold netStep at hst
        split at hst <;> split at hst <;> first | (cases hst; done) | (injection hst with hst; subst hst; simp)
      | inr s' =>
        have h2 : s'.2.length = i + 1 := by
          unfold netStep at hst
          split at hst <;> split at hst <;> first | (cases hst; done) | (injection hst with hst; subst hst; simp [hs])
        have := ih (i + 1) s' h2
        dsimp only
        omega
  unfold netVal
  split
  · unfold netTail; have := key ns.length 0 (h, []) rfl; omega
  · simp

theorem and255 (n : Int) : 0 ≤ Go.bits .and .i64 n 255 ∧ Go.bits .and .i64 n 255 ≤ 255 := by
  have h : Go.bits .and .i64 n 255 = IntKind.i64.wrap ((BitVec.ofInt 64 n &&& BitVec.ofInt 64 255).toNat : Int) := rfl
  have hb : (BitVec.ofInt 64 n &&& BitVec.ofInt 64 255).toNat ≤ 255 := by
    rw [BitVec.toNat_and]
    exact Nat.le_trans Nat.and_le_right (by decide)
  rw [h]
  generalize (BitVec.ofInt 64 n &&& BitVec.ofInt 64 255).toNat = m at hb
  have : IntKind.i64.wrap (m : Int) = (m : Int) := by
    rw [IntKind.wrap_i64]; omega
  rw [this]
  omega
theorem new_ok (L : List Int) : ∀ (d i : Nat) (s : Int) (k : Nat), i + d = 4000 → d < k → ∃ t, spec_l1New.l0 k L s (i : Int) = some (L, 0, t) := by
  intro d
  induction d with
  | zero =>
    intro i s k hi hk
    obtain ⟨k, rfl⟩ : ∃ q, k = q + 1 := ⟨k - 1, by omega⟩
    refine ⟨s, ?_⟩
    rw [spec_l1New.l0, if_neg (show ¬ (i : Int) < 4000 by omega)]
    split <;> rfl
  | succ d ih =>
    intro i s k hi hk
    obtain ⟨k, rfl⟩ : ∃ q, k = q + 1 := ⟨k - 1, by omega⟩
    rw [spec_l1New.l0]
    by_cases h : (i : Int) < (L.length : Int)
    · have e : wrap64 ((i : Int) + 1) = ((i + 1 : Nat) : Int) := by rw [w64 (by omega) (by omega)]; omega
      rw [if_pos h, if_pos (show (i : Int) < 4000 by omega), if_pos (Int.natCast_nonneg i), e]
      exact ih (i + 1) _ k (by omega) (by omega)
    · exact ⟨s, by rw [if_neg h]⟩
theorem l1New_ok (L : List Int) (k : Nat) (hk : 4001 ≤ k) : ∃ t, spec_l1New.f k L = some (L, 0, t) := by
  unfold spec_l1New.f
  exact new_ok L 4000 0 _ k (by omega) (by omega)
theorem byte_ok (L : List Int) (i s : Int) (hL : L.length ≤ maxLen) (h0 : 0 ≤ i) (hi : i ≤ L.length) : ∃ v j t, spec_l1Byte.f L i s = some (v, j, t) ∧ 0 ≤ v ∧ v ≤ 255 ∧ 0 ≤ j ∧ j ≤ L.length := by
  have hm : maxLen ≤ 9223372036854775807 := by rw [maxLen_eq]; omega
  unfold spec_l1Byte.f
  by_cases h : i < (L.length : Int)
  · have e : wrap64 (i + 1) = i + 1 := w64 (by omega) (by omega)
    rw [if_pos h, if_pos h0, e]
    exact ⟨_, _, _, rfl, (and255 _).1, (and255 _).2, by omega, by omega⟩
  · rw [if_neg h]
    exact ⟨_, _, _, rfl, (and255 _).1, (and255 _).2, by omega, by omega⟩
theorem below_ok (L : List Int) (i s n : Int) (hL : L.length ≤ maxLen) (h0 : 0 ≤ i) (hi : i ≤ L.length) : ∃ v j t, spec_l1Below.f L i s n = some (v, j, t) ∧ 0 ≤ v ∧ (0 < n → v < n) ∧ 0 ≤ j ∧ j ≤ L.length := by
  unfold spec_l1Below.f
  by_cases hn : n ≤ 0
  · rw [if_pos hn]
    exact ⟨_, _, _, rfl, by omega, fun h => by omega, h0, hi⟩
  · rw [if_neg hn]
    have tm : ∀ z : Int, 0 ≤ z → 0 ≤ Int.tmod z n ∧ Int.tmod z n < n := by
      intro z hz
      rw [Int.tmod_eq_emod_of_nonneg hz]
      exact ⟨Int.emod_nonneg _ (by omega), Int.emod_lt_of_pos _ (by omega)⟩
    by_cases h2 : n ≤ 256
    · obtain ⟨v, j, t, e, v0, v1, j0, j1⟩ := byte_ok L i s hL h0 hi
      rw [if_pos h2, e, Option.bind_some, if_neg (by omega)]
      exact ⟨_, _, _, rfl, (tm v v0).1, fun _ => (tm v v0).2, j0, j1⟩
    · obtain ⟨v, j, t, e, v0, v1, j0, j1⟩ := byte_ok L i s hL h0 hi
      obtain ⟨v', j', t', e', v0', v1', j0', j1'⟩ := byte_ok L j t hL j0 j1
      obtain ⟨v2, j2, t2, e2, v02, v12, j02, j12⟩ := byte_ok L j' t' hL j0' j1'
      obtain ⟨v3, j3, t3, e3, v03, v13, j03, j13⟩ := byte_ok L j2 t2 hL j02 j12
      rw [if_neg h2, e, Option.bind_some]
      dsimp only
      rw [e', Option.bind_some]
      dsimp only
      rw [e2, Option.bind_some]
      dsimp only
      rw [e3, Option.bind_some, if_neg (by omega)]
      dsimp only
      have w : wrap64 (wrap64 (wrap64 (wrap64 (v * 16777216) + wrap64 (v' * 65536)) + wrap64 (v2 * 256)) + v3) = v * 16777216 + v' * 65536 + v2 * 256 + v3 := by
        rw [w64 (x := v * 16777216) (by omega) (by omega), w64 (x := v' * 65536) (by omega) (by omega), w64 (x := v2 * 256) (by omega) (by omega), w64 (x := v * 16777216 + v' * 65536) (by omega) (by omega), w64 (x := v * 16777216 + v' * 65536 + v2 * 256) (by omega) (by omega), w64 (by omega) (by omega)]
      rw [w]
      have tz := tm (v * 16777216 + v' * 65536 + v2 * 256 + v3) (by omega)
      exact ⟨_, _, _, rfl, tz.1, fun _ => tz.2, j03, j13⟩

theorem once_ok (L : List Int) (i s n : Int) (hL : L.length ≤ maxLen) (h0 : 0 ≤ i) (hi : i ≤ L.length) : ∃ (b : Bool) (j t : Int), spec_l1Once.f L i s n = some (b, j, t) ∧ 0 ≤ j ∧ j ≤ L.length := by
  unfold spec_l1Once.f
  obtain ⟨v, j, t, e, _, _, j0, j1⟩ := below_ok L i s n hL h0 hi
  rw [e, Option.bind_some]
  exact ⟨_, _, _, rfl, j0, j1⟩

theorem rd_mem (l : List Int) (v : Int) (h0 : 0 ≤ v) (h1 : v < (l.length : Int)) : rd l v ∈ l := by
  obtain ⟨n, rfl⟩ : ∃ n : Nat, v = n := ⟨v.toNat, by omega⟩
  have hn : n < l.length := by omega
  have : rd l (n : Int) = l[n]'hn := by
    unfold rd
    simp [hn]
  rw [this]
  exact List.getElem_mem hn
theorem pickInt_ok (L l : List Int) (i s : Int) (hL : L.length ≤ maxLen) (h0 : 0 ≤ i) (hi : i ≤ L.length) (hl : 0 < l.length) : ∃ v j t, spec_l1PickInt.f L i s l = some (v, j, t) ∧ v ∈ l ∧ 0 ≤ j ∧ j ≤ L.length := by
  unfold spec_l1PickInt.f
  obtain ⟨v, j, t, e, v0, v1, j0, j1⟩ := below_ok L i s (l.length : Int) hL h0 hi
  have v2 := v1 (by omega)
  rw [e, Option.bind_some]
  dsimp only
  rw [if_pos v0, if_pos v2]
  exact ⟨_, _, _, rfl, rd_mem l v v0 v2, j0, j1⟩

theorem spoil_ok (L l : List Int) (i s a : Int) (hL : L.length ≤ maxLen) (h0 : 0 ≤ i) (hi : i ≤ L.length) (hl : 0 < l.length) : ∃ v j t, spec_l1Spoil.f L i s a l = some (v, j, t) ∧ (v = a ∨ v ∈ l) ∧ 0 ≤ j ∧ j ≤ L.length := by
  unfold spec_l1Spoil.f
  obtain ⟨b, j, t, e, j0, j1⟩ := once_ok L i s 40 hL h0 hi
  rw [e, Option.bind_some]
  dsimp only
  cases b
  · rw [if_neg (by simp)]
    exact ⟨_, _, _, rfl, .inl rfl, j0, j1⟩
  · rw [if_pos rfl]
    obtain ⟨v, j', t', e', hv, j0', j1'⟩ := pickInt_ok L l j t hL j0 j1 hl
    rw [e', Option.bind_some]
    exact ⟨_, _, _, rfl, .inr hv, j0', j1'⟩

theorem drawList_ok (L : List Int) (hL : L.length ≤ maxLen) : ∀ (m : Nat) (x : List Int) (i s : Int) (k : Nat), x.length + m ≤ 1000 → m < k → 0 ≤ i → i ≤ L.length → ∃ l j t, spec_l18DrawList.l0 k (m : Int) x L i s = some (l, j, t) ∧ l.length = x.length + m ∧ 0 ≤ j ∧ j ≤ L.length := by
  intro m
  induction m with
  | zero =>
    intro x i s k _ hk h0 hi
    obtain ⟨k, rfl⟩ : ∃ q, k = q + 1 := ⟨k - 1, by omega⟩
    rw [spec_l18DrawList.l0, if_neg (by omega)]
    exact ⟨_, _, _, rfl, rfl, h0, hi⟩
  | succ m ih =>
    intro x i s k hx hk h0 hi
    obtain ⟨k, rfl⟩ : ∃ q, k = q + 1 := ⟨k - 1, by omega⟩
    rw [spec_l18DrawList.l0, if_pos (by omega)]
    have e0 : wrap64 (((m + 1 : Nat) : Int) - 1) = (m : Int) := by rw [w64 (by omega) (by omega)]; omega
    obtain ⟨v, j, t, e, _, _, j0, j1⟩ := below_ok L i s 40 hL h0 hi
    rw [e, Option.bind_some]
    dsimp only
    obtain ⟨b, j, t, e, j0, j1⟩ := once_ok L j t 3 hL j0 j1
    rw [e, Option.bind_some, e0]
    dsimp only
    have ha : ∀ w : Int, (x ++ [w]).length = x.length + 1 := by intro w; simp
    cases b
    · obtain ⟨w, j, t, e, _, j0, j1⟩ := spoil_ok L [v, v, v, v, (-1), 1000000, 1000001] j t v hL j0 j1 (by simp)
      rw [if_neg (by simp), e, Option.bind_some, if_pos (by omega)]
      dsimp only
      obtain ⟨l, j, t, e, hl, j0, j1⟩ := ih (x ++ [w]) j t k (by rw [ha]; omega) (by omega) j0 j1
      exact ⟨l, j, t, e, by rw [hl, ha]; omega, j0, j1⟩
    · obtain ⟨w, j, t, e, _, j0, j1⟩ := spoil_ok L [0, 0, 0, 0, (-1), 1000000, 1000001] j t 0 hL j0 j1 (by simp)
      rw [if_pos rfl, e, Option.bind_some, if_pos (by omega)]
      dsimp only
      obtain ⟨l, j, t, e, hl, j0, j1⟩ := ih (x ++ [w]) j t k (by rw [ha]; omega) (by omega) j0 j1
      exact ⟨l, j, t, e, by rw [hl, ha]; omega, j0, j1⟩
theorem drawNet_ok (L : List Int) (hL : L.length ≤ maxLen) (k : Nat) (hk : 4001 ≤ k) : ∃ ns h sf cs, spec_DrawNet.f k L = some (ns, h, sf, cs) ∧ ns.length ≤ 1000 ∧ cs.length ≤ 1000 := by
  unfold spec_DrawNet.f
  obtain ⟨t, e⟩ := l1New_ok L k hk
  rw [e, Option.bind_some]
  dsimp only
  obtain ⟨z, e, z0⟩ : ∃ z, spec_l1Size.f L 12 = some z ∧ z ≤ 12 := by
    unfold spec_l1Size.f
    split
    · exact ⟨_, rfl, by omega⟩
    · exact ⟨_, rfl, by omega⟩
  rw [e, Option.bind_some]
  obtain ⟨n, j, t, e, n0, n1, j0, j1⟩ := below_ok L 0 t z hL (by omega) (by omega)
  have n2 : n ≤ 12 := by
    by_cases hz : 0 < z
    · have := n1 hz; omega
    · have h := e
      unfold spec_l1Below.f at h
      rw [if_pos (by omega)] at h
      injection h with h
      injection h with h _
      omega
  rw [e, Option.bind_some]
  dsimp only
  obtain ⟨n, rfl⟩ : ∃ m : Nat, n = m := ⟨n.toNat, by omega⟩
  unfold spec_l18DrawList.f
  obtain ⟨ns, j, t, e, hns, j0, j1⟩ := drawList_ok L hL n [] j t k (by simp; omega) (by omega) j0 j1
  rw [e, Option.bind_some]
  dsimp only
  obtain ⟨b, j, t, e, b0, b1, j0, j1⟩ := below_ok L j t 40 hL j0 j1
  have b2 := b1 (by omega)
  rw [e, Option.bind_some]
  dsimp only
  have eb : Int.tdiv b 39 = b / 39 := Int.tdiv_eq_ediv_of_nonneg b0
  have en : wrap64 ((n : Int) + wrap64 (Int.tdiv b 39)) = ((n + (b / 39).toNat : Nat) : Int) := by
    rw [eb, w64 (x := b / 39) (by omega) (by omega), w64 (by omega) (by omega)]
    omega
  rw [en]
  obtain ⟨cs, j, t, e, hcs, j0, j1⟩ := drawList_ok L hL (n + (b / 39).toNat) [] j t k (by simp; omega) (by omega) j0 j1
  rw [e, Option.bind_some]
  dsimp only
  obtain ⟨v, j, t, e, _, _, j0, j1⟩ := below_ok L j t 100 hL j0 j1
  rw [e, Option.bind_some]
  dsimp only
  obtain ⟨h, j, t, e, _, j0, j1⟩ := spoil_ok L [(-1), 1000000, 1000001] j t v hL j0 j1 (by simp)
  rw [e, Option.bind_some]
  dsimp only
  obtain ⟨v, j, t, e, _, _, j0, j1⟩ := below_ok L j t 20 hL j0 j1
  rw [e, Option.bind_some]
  dsimp only
  obtain ⟨sf, j, t, e, _, j0, j1⟩ := spoil_ok L [(-1), 1000000] j t v hL j0 j1 (by simp)
  rw [e, Option.bind_some]
  refine ⟨_, _, _, _, rfl, ?_, ?_⟩
  · rw [hns]; simp; omega
  · rw [hcs]; simp; omega

theorem cov (ns cs : List Int) (sf : Int) (h0 : 0 ≤ sf) (h1 : sf ≤ 1000000) (he : cs.length = ns.length) (hl : ns.length ≤ 40) (hn : ∀ j, j < ns.length → 0 ≤ rd ns (j : Nat) ∧ rd ns (j : Nat) ≤ 1000000) (hc : ∀ j, j < cs.length → 0 ≤ rd cs (j : Nat) ∧ rd cs (j : Nat) ≤ 1000000) :
    ∀ (d i : Nat) (s : Int × List Int) (out : List Int), i + d = ns.length → netInv i s → foldS (netStep ns cs sf) (fun s => (s.2, true)) d i s = (out, true) →
      (∃ r, out = s.2 ++ r) ∧ out.length = ns.length ∧ ∀ k, d < k → laws_FnNetCovered.l0 k ns s.1 sf cs out (i : Int) = some true := by
  intro d
  induction d with
  | zero =>
    intro i s out hi hI h
    unfold foldS at h
    injection h with h _
    subst h
    refine ⟨⟨[], by simp⟩, by have := hI.2.2; omega, ?_⟩
    intro k hk
    obtain ⟨k, rfl⟩ : ∃ q, k = q + 1 := ⟨k - 1, by omega⟩
    rw [laws_FnNetCovered.l0, if_neg (by omega)]
  | succ d ih =>
    intro i s out hi hI h
    have a1 := hn i (by omega)
    have a2 := hc i (by omega)
    unfold foldS at h
    cases hst : netStep ns cs sf i s with
    | inl r =>
      rw [hst] at h
      dsimp only at h
      unfold netStep at hst
      split at hst <;> split at hst <;> first | (cases hst; done) | (injection hst with hst; subst hst; cases h)
    | inr s' =>
      rw [hst] at h
      dsimp only at h
      have hI' := netInv_step ns cs sf h0 h1 i s s' hI hst
      obtain ⟨⟨r, hr⟩, ho, hk'⟩ := ih (i + 1) s' out (by omega) hI' h
      obtain ⟨m, hm, hval⟩ : ∃ m, s'.2 = s.2 ++ [m] ∧ ((s.1 + rd cs i - rd ns i < sf ∧ m = sf - (s.1 + rd cs i - rd ns i) ∧ s'.1 = sf) ∨ (¬ s.1 + rd cs i - rd ns i < sf ∧ m = 0 ∧ s'.1 = s.1 + rd cs i - rd ns i)) := by
        unfold netStep at hst
        split at hst
        · split at hst
          · injection hst with hst; subst hst; exact ⟨_, rfl, .inl ⟨by assumption, rfl, rfl⟩⟩
          · cases hst
        · split at hst
          · injection hst with hst; subst hst; exact ⟨_, rfl, .inr ⟨by assumption, rfl, rfl⟩⟩
          · cases hst
      have ho2 : out = s.2 ++ m :: r := by rw [hr, hm, List.append_assoc, List.singleton_append]
      have hrd : rd out (i : Int) = m := by rw [ho2]; exact rd_mid _ _ _ _ hI.2.2
      refine ⟨⟨m :: r, ho2⟩, ho, ?_⟩
      intro k hk
      obtain ⟨k, rfl⟩ : ∃ q, k = q + 1 := ⟨k - 1, by omega⟩
      have hI1 := hI.1
      have hI2 := hI.2.1
      have hk2 := hk' k (by omega)
      rw [laws_FnNetCovered.l0, if_pos (by omega), if_pos (by omega), if_pos (by omega), if_pos (by omega), hrd, w64i (show i < ns.length by omega) (by omega)]
      rw [w64 (x := s.1 + rd cs i) (by omega) (by omega), w64 (x := s.1 + rd cs i - rd ns i) (by omega) (by omega)]
      rcases hval with ⟨q1, q2, q3⟩ | ⟨q1, q2, q3⟩
      · have e : wrap64 (s.1 + rd cs i - rd ns i + m) = sf := by rw [w64 (by omega) (by omega)]; omega
        rw [q3] at hk2
        rw [e, if_neg (by omega), if_neg (by omega), if_pos (by omega), if_pos rfl]
        exact hk2
      · have e : wrap64 (s.1 + rd cs i - rd ns i + m) = s.1 + rd cs i - rd ns i := by rw [w64 (by omega) (by omega)]; omega
        rw [q3] at hk2
        rw [e, if_neg (by omega), if_neg (by omega), if_neg (by omega)]
        exact hk2
theorem net_first : netVal [5, 5] 7 1 [0, 2] = ([0, 2], true) := by rfl
theorem qtyB_of (x : Int) (h : qtyB x = true) : 0 ≤ x ∧ x ≤ 1000000 := by
  unfold qtyB at h
  rwa [decide_eq_true_eq] at h
theorem net_cov (ns cs out : List Int) (h sf : Int) (hv : netVal ns h sf cs = (out, true)) (k : Nat) (hk : 100 ≤ k) : out.length = ns.length ∧ laws_FnNetCovered.l0 k ns h sf cs out 0 = some true := by
  unfold netVal at hv
  split at hv
  · rename_i hc
    rw [Bool.and_eq_true, Bool.and_eq_true, Bool.and_eq_true, Bool.and_eq_true, decide_eq_true_eq] at hc
    obtain ⟨⟨c1, c2, c3⟩, c4, c5⟩ := hc
    have b1 := bucketB_all ns c1
    have b2 := bucketB_all cs c2
    have q1 := qtyB_of h c4
    have q2 := qtyB_of sf c5
    unfold netTail at hv
    obtain ⟨_, r1, r2⟩ := cov ns cs sf q2.1 q2.2 c3.symm b1.1.2 b1.2 b2.2 ns.length 0 (h, []) out (by omega) ⟨q1.1, q1.2, rfl⟩ hv
    exact ⟨r1, r2 k (by omega)⟩
  · injection hv with _ hv
    cases hv
theorem FnNetCovered : laws_FnNetCovered.Pure := by
  intro L hL _ _
  refine ⟨4000003, ?_⟩
  unfold laws_FnNetCovered.f laws_big.f
  rw [Option.bind_some]
  by_cases hb : ((L.length : Nat) : Int) > 1048576
  · rw [if_pos (decide_eq_true hb)]
  · rw [if_neg (by rw [decide_eq_true_eq]; exact hb), netImpl_eq [5, 5] 7 1 [0, 2] (by simp) (by simp) _ (by omega), net_first, Option.bind_some]
    dsimp only
    rw [if_pos rfl, if_pos (by decide), if_pos (by decide), if_pos (by decide), if_pos (by decide)]
    have e : ((rd [0, 2] 1) != 2) = false := by decide
    rw [e]
    show laws_FnNetCovered.j0 (4000002 + 1) L false = _
    rw [laws_FnNetCovered.j0, if_neg (by simp)]
    obtain ⟨ns, h, sf, cs, e, hns, hcs⟩ := drawNet_ok L hL 4000002 (by omega)
    rw [e, Option.bind_some]
    dsimp only
    rw [netImpl_eq ns h sf cs (by omega) (by omega) _ (by omega), Option.bind_some, netSpec_eq ns h sf cs (by omega) (by omega) _ (by omega), Option.bind_some]
    rcases hV : netVal ns h sf cs with ⟨out, ok⟩
    dsimp only
    rw [if_neg (by simp)]
    show laws_FnNetCovered.j1 (4000001 + 1) ns h sf cs out ok ok _ = _
    cases ok
    · rw [laws_FnNetCovered.j1, if_pos (by rfl)]; rfl
    · obtain ⟨r1, r2⟩ := net_cov ns cs out h sf hV 4000001 (by omega)
      rw [laws_FnNetCovered.j1, if_neg (by simp), if_pos (by rw [r1])]
      exact r2

end Go.Proofs.Ytegkhdobjcdfnae.Pure
