/- The program's Net answers as the reference's at all needs and stocks; what is handed in reads as before, and what is handed back is new memory. Conditions: none. -/
import Derived.Test.YtegkhdobjcdfnacPFnExactNetx3
import Derived.Test.YtegkhdobjcdfnacPFnExactNetx3
import Derived.Test.YtegkhdobjcdfnacPFnExactNetx3
import Derived.Test.YtegkhdobjcdfnacPFnExactNetx3
import Derived.Test.YtegkhdobjcdfnacPureAid
import Derived.Test.YtegkhdobjcdfnacWMore
namespace Go.Proofs.Ytegkhdobjcdfnac.Pure
open Go Go.RowKit Go.Proofs.Ytegkhdobjcdfnac.PFnExactNet Go.Proofs.YtegkhdobjcdfnacW.PrintWords Go.Proofs.YtegkhdobjcdfnacW.PrintLast Go.Proofs.Ytegkhdobjcdfnac.Aid
set_option linter.unusedVariables false
set_option linter.unusedSimpArgs false
set_option maxRecDepth 100000
theorem toIntS_eq (l : List Int) (hl : l.length ≤ 35184372088832) (k : Nat) (hk : l.length < k) : laws_toIntS.f k l = some l := by
  unfold laws_toIntS.f
  rw [if_pos (by omega), if_pos (by omega)]
  have h := loop_fill0 (fun k acc i => laws_toIntS.l0 k l acc i) l id 0 ?_ ?_ k (by omega) (List.replicate ((l.length : Int) : Int).toNat 0) (by simp)
  · rw [List.map_id] at h; exact h
  · intro k acc i x _ hi ha hx
    simp only [laws_toIntS.l0]
    rw [if_pos (by omega), if_pos (by omega), if_pos (by omega), w64i hi (by omega)]
    unfold rd
    rw [getD_of hx, Int.toNat_natCast]
    rfl
  · intro k acc _
    simp only [laws_toIntS.l0]
    rw [if_neg (by omega)]

theorem eqIntS_refl (l : List Int) (hl : l.length ≤ 9223372036854775807) (k : Nat) (hk : l.length < k) : laws_eqIntS.f k l l = some true := by
  unfold laws_eqIntS.f
  rw [if_pos rfl, loop_scan0 (fun k i => laws_eqIntS.l0 k l l i) l.length 0 (fun _ => none) true ?_ ?_ ?_ k (by omega), scan_false _ _ (fun _ _ _ => rfl)]
  · intro k i r _ hi h
    cases h
  · intro k i _ hi h
    simp only [laws_eqIntS.l0]
    rw [if_pos (by omega), if_pos (by omega), if_pos (by omega), if_pos trivial, w64i hi (by omega)]
  · intro k _
    simp only [laws_eqIntS.l0]
    rw [if_neg (by omega)]

theorem markIntS_loop (n : Nat) (a : Int) (ha : 0 ≤ a) (hb : a + n ≤ 9223372036854775807) : ∀ (d i k : Nat) (l : List Int), i + d = n → d < k → l.length = n → (∀ j, j < i → rd l (j : Nat) = a + j) →
    ∃ M, laws_markIntS.l0 k l (a + i) (i : Int) = some (a + n, M) ∧ M.length = n ∧ ∀ j, j < n → rd M (j : Nat) = a + j := by
  intro d
  induction d with
  | zero =>
    intro i k l hi hk hl hj
    obtain ⟨k, rfl⟩ : ∃ m, k = m + 1 := ⟨k - 1, by omega⟩
    simp only [laws_markIntS.l0]
    rw [if_neg (by omega)]
    obtain rfl : i = n := by omega
    exact ⟨l, rfl, hl, hj⟩
  | succ d ih =>
    intro i k l hi hk hl hj
    obtain ⟨k, rfl⟩ : ∃ m, k = m + 1 := ⟨k - 1, by omega⟩
    simp only [laws_markIntS.l0]
    rw [if_pos (by omega), if_pos (by omega), w64i (show i < n by omega) (by omega), w64 (by omega) (by omega), show a + (i : Int) + 1 = a + ((i + 1 : Nat) : Int) by omega, Int.toNat_natCast]
    refine ih (i + 1) k _ (by omega) (by omega) (by simpa using hl) (fun j hjl => ?_)
    unfold rd
    rw [Int.toNat_natCast, List.getD_eq_getElem?_getD]
    rcases Nat.lt_succ_iff_lt_or_eq.1 hjl with h | rfl
    · rw [List.getElem?_set_ne (by omega)]
      have := hj j h
      unfold rd at this
      rw [Int.toNat_natCast, List.getD_eq_getElem?_getD] at this
      exact this
    · rw [List.getElem?_set_self (by omega)]; rfl
theorem markIntS_eq (l : List Int) (a : Int) (ha : 0 ≤ a) (hb : a + l.length ≤ 9223372036854775807) (k : Nat) (hk : l.length < k) :
    ∃ M, laws_markIntS.f k l a = some (a + l.length, M) ∧ M.length = l.length ∧ ∀ j, j < l.length → rd M (j : Nat) = a + j := by
  unfold laws_markIntS.f
  have h := markIntS_loop l.length a ha hb l.length 0 k l (by omega) hk rfl (fun j hj => by omega)
  simpa using h
theorem heldIntS_eq (M : List Int) (n : Nat) (a : Int) (ha : 0 ≤ a) (hb : a + n ≤ 9223372036854775807) (hl : M.length = n) (hm : ∀ j, j < n → rd M (j : Nat) = a + j) (k : Nat) (hk : n < k) : laws_heldIntS.f k M a = some (a + n) := by
  unfold laws_heldIntS.f
  have key : ∀ (d i k : Nat), i + d = n → d < k → laws_heldIntS.l0 k M (a + i) (i : Int) = some (a + n) := by
    intro d
    induction d with
    | zero =>
      intro i k hi hk
      obtain ⟨k, rfl⟩ : ∃ m, k = m + 1 := ⟨k - 1, by omega⟩
      simp only [laws_heldIntS.l0]
      rw [if_neg (by omega), show i = n by omega]
    | succ d ih =>
      intro i k hi hk
      obtain ⟨k, rfl⟩ : ∃ m, k = m + 1 := ⟨k - 1, by omega⟩
      simp only [laws_heldIntS.l0]
      rw [if_pos (by omega), if_pos (by omega), if_pos (hm i (by omega)), w64i (show i < n by omega) (by omega), w64 (by omega) (by omega), show a + (i : Int) + 1 = a + ((i + 1 : Nat) : Int) by omega]
      exact ih (i + 1) k (by omega) (by omega)
  have := key n 0 k (by omega) hk
  simpa using this

theorem two_dec (a b : Prop) [Decidable a] [Decidable b] : (if a then some (decide b) else some false) = some (decide (a ∧ b)) := by
  by_cases h : a
  · rw [if_pos h]; congr 1; rw [decide_eq_decide]; exact ⟨fun hb => ⟨h, hb⟩, fun hb => hb.2⟩
  · rw [if_neg h]; congr 1; symm; rw [decide_eq_false_iff_not]; exact fun hb => h hb.1

theorem l1In_eq (a b c : Int) : spec_l1In.f a b c = some (decide (b ≤ a ∧ a ≤ c)) := by unfold spec_l1In.f; exact two_dec (a ≥ b) (a ≤ c)

theorem l12Qty_eq (a : Int) : spec_l12Qty.f a = some (decide (0 ≤ a ∧ a ≤ 1000000)) := by unfold spec_l12Qty.f; rw [l1In_eq]; rfl

theorem between_eq (a b c : Int) : impl_between.f a b c = some (decide (b ≤ a ∧ a ≤ c)) := by unfold impl_between.f; exact two_dec (a ≥ b) (a ≤ c)

theorem quantity_eq (a : Int) : impl_quantity.f a = some (decide (0 ≤ a ∧ a ≤ 1000000)) := by unfold impl_quantity.f; rw [between_eq]; rfl

def qtyB (x : Int) : Bool := decide (0 ≤ x ∧ x ≤ 1000000)
def qtyStop (l : List Int) (i : Nat) : Option Bool := if qtyB (rd l i) = true then none else some false
/-- A list of quantities, one a bucket. -/
def bucketB (l : List Int) : Bool := decide (1 ≤ l.length ∧ l.length ≤ 40) && scan (qtyStop l) true l.length 0
theorem bucketB_all (l : List Int) (h : bucketB l = true) : (1 ≤ l.length ∧ l.length ≤ 40) ∧ ∀ j, j < l.length → 0 ≤ rd l (j : Nat) ∧ rd l (j : Nat) ≤ 1000000 := by
  unfold bucketB at h
  rw [Bool.and_eq_true, decide_eq_true_eq] at h
  refine ⟨h.1, fun j hj => ?_⟩
  have h2 := (scan_all (p := fun j => qtyB (rd l (j : Nat))) l.length 0).1 h.2 j (by omega) (by omega)
  unfold qtyB at h2
  rw [decide_eq_true_eq] at h2
  exact h2
theorem l18List_eq (l : List Int) (hl : l.length ≤ 9223372036854775807) (k : Nat) (hk : l.length + 1 ≤ k) : spec_l18List.f k l = some (bucketB l) := by
  unfold spec_l18List.f bucketB
  rw [l1In_eq]
  simp only [Option.bind_some, decide_eq_true_eq]
  by_cases h1 : 1 ≤ (l.length : Int) ∧ (l.length : Int) ≤ 40
  · rw [if_pos h1, decide_eq_true (show 1 ≤ l.length ∧ l.length ≤ 40 by omega)]
    simp only [Bool.true_and]
    refine loop_scanM0 (fun k i => spec_l18List.l0 k l i) l.length 0 1 (qtyStop l) true ?_ ?_ k (by omega)
    · intro k i _ hi
      simp only [spec_l18List.l0]
      rw [if_pos (by omega), if_pos (by omega), w64i hi hl, l12Qty_eq]
      simp only [Option.bind_some]
      unfold qtyStop qtyB
      cases decide (0 ≤ rd l i ∧ rd l i ≤ 1000000) <;> rfl
    · intro k _
      simp only [spec_l18List.l0]
      rw [if_neg (by omega)]
  · rw [if_neg h1, decide_eq_false (by omega)]; rfl
theorem listOk_eq (l : List Int) (n : Nat) (hl : l.length ≤ 9223372036854775807) (k : Nat) (hk : l.length + 3 ≤ k) : impl_listOk.f k l (n : Int) = some (decide ((l.length : Int) = (n : Int)) && bucketB l) := by
  obtain ⟨k, rfl⟩ : ∃ m, k = m + 1 := ⟨k - 1, by omega⟩
  unfold impl_listOk.f bucketB
  rw [between_eq]
  by_cases he : (l.length : Int) = (n : Int)
  · have e : ((l.length : Int) != (n : Int)) = false := by rw [he]; simp
    simp only [Option.bind_some, decide_eq_true_eq, impl_listOk.j0, if_true, e]
    rw [decide_eq_true he, Bool.true_and, ← he]
    by_cases h1 : 1 ≤ (l.length : Int) ∧ (l.length : Int) ≤ 40
    · rw [if_pos h1, decide_eq_true (show 1 ≤ l.length ∧ l.length ≤ 40 by omega), if_neg (by simp)]
      simp only [Bool.true_and]
      refine loop_scanM0 (fun k i => impl_listOk.l0 k l (l.length : Int) i) l.length 0 1 (qtyStop l) true ?_ ?_ k (by omega)
      · intro k i _ hi
        simp only [impl_listOk.l0]
        rw [if_pos (by omega), if_pos (by omega), if_pos (by omega), w64i hi hl, quantity_eq]
        simp only [Option.bind_some]
        unfold qtyStop qtyB
        cases decide (0 ≤ rd l i ∧ rd l i ≤ 1000000) <;> rfl
      · intro k _
        simp only [impl_listOk.l0]
        rw [if_neg (by omega)]
    · rw [if_neg h1, decide_eq_false (by omega)]; rfl
  · have e : ((l.length : Int) != (n : Int)) = true := by simpa using he
    simp only [Option.bind_some, decide_eq_true_eq, impl_listOk.j0, if_true, e]
    rw [decide_eq_false he, Bool.false_and]
    split <;> rfl

def netStep (ns cs : List Int) (sf : Int) (i : Nat) (s : Int × List Int) : (List Int × Bool) ⊕ (Int × List Int) :=
  if s.1 + rd cs i - rd ns i < sf then (if sf - (s.1 + rd cs i - rd ns i) ≤ 1000000 then .inr (sf, s.2 ++ [sf - (s.1 + rd cs i - rd ns i)]) else .inl ([], false))
  else (if s.1 + rd cs i - rd ns i ≤ 1000000 then .inr (s.1 + rd cs i - rd ns i, s.2 ++ [0]) else .inl ([], false))
def netTail (ns cs : List Int) (h sf : Int) : List Int × Bool := foldS (netStep ns cs sf) (fun s => (s.2, true)) ns.length 0 (h, [])
def netInv (i : Nat) (s : Int × List Int) : Prop := 0 ≤ s.1 ∧ s.1 ≤ 1000000 ∧ s.2.length = i
theorem netInv_step (ns cs : List Int) (sf : Int) (h0 : 0 ≤ sf) (h1 : sf ≤ 1000000) (i : Nat) (s s' : Int × List Int) (hI : netInv i s) (h : netStep ns cs sf i s = .inr s') : netInv (i + 1) s' := by
  unfold netStep at h
  unfold netInv at hI ⊢
  split at h
  · split at h
    · injection h with h
      subst h
      exact ⟨by omega, by omega, by simp [hI.2.2]⟩
    · cases h
  · split at h
    · injection h with h
      subst h
      exact ⟨by dsimp only; omega, by dsimp only; omega, by simp [hI.2.2]⟩
    · cases h
theorem netSpec_loop (ns cs x : List Int) (h sf : Int) (hh : 0 ≤ h ∧ h ≤ 1000000) (hs : 0 ≤ sf ∧ sf ≤ 1000000) (he : cs.length = ns.length) (hl : ns.length ≤ 40) (hn : ∀ j, j < ns.length → 0 ≤ rd ns (j : Nat) ∧ rd ns (j : Nat) ≤ 1000000) (hc : ∀ j, j < cs.length → 0 ≤ rd cs (j : Nat) ∧ rd cs (j : Nat) ≤ 1000000) (hx : x = []) (k : Nat) (hk : 1000 ≤ k) :
    spec_Net.l0 k ns h sf cs x [] 0 = some (netTail ns cs h sf) := by
  refine loop_fold0 (fun k i s => spec_Net.l0 k ns s.1 sf cs x s.2 i) ns.length 0 2 (netStep ns cs sf) (fun s => (s.2, true)) netInv ?_ ?_ ?_ k (h, []) (by omega) ⟨hh.1, hh.2, rfl⟩
  · intro k i s _ hi hI
    unfold netInv at hI
    have a1 := hn i hi
    have a2 := hc i (by omega)
    have j2 : ∀ v m, spec_Net.j2 (k + 1) ns v sf cs x s.2 (i : Int) m = if (0 ≤ v ∧ v ≤ 1000000) ∧ (0 ≤ m ∧ m ≤ 1000000) then spec_Net.l0 k ns v sf cs x (s.2 ++ [m]) ((i + 1 : Nat) : Int) else some ([], false) := by
      intro v m
      simp only [spec_Net.j2, l12Qty_eq, Option.bind_some, decide_eq_true_eq]
      by_cases q1 : 0 ≤ v ∧ v ≤ 1000000
      · rw [if_pos q1]
        by_cases q2 : 0 ≤ m ∧ m ≤ 1000000
        · rw [if_pos q2, if_pos (by omega), if_pos ⟨q1, q2⟩, w64i hi (by omega)]
        · rw [if_neg q2, if_neg (fun q => q2 q.2), hx]
      · rw [if_neg q1, if_neg (fun q => q1 q.1), hx]
    simp only [spec_Net.l0]
    rw [if_pos (by omega), if_pos (by omega), if_pos (by omega), j2, j2]
    rw [w64 (x := s.1 + rd cs i) (by omega) (by omega), w64 (x := s.1 + rd cs i - rd ns i) (by omega) (by omega), w64 (x := sf - _) (by omega) (by omega)]
    unfold netStep
    by_cases q1 : s.1 + rd cs i - rd ns i < sf
    · rw [if_pos q1, if_pos q1]
      by_cases q2 : sf - (s.1 + rd cs i - rd ns i) ≤ 1000000
      · rw [if_pos (by omega), if_pos q2]; rfl
      · rw [if_neg (by omega), if_neg q2]; rfl
    · rw [if_neg q1, if_neg q1]
      by_cases q2 : s.1 + rd cs i - rd ns i ≤ 1000000
      · rw [if_pos (by omega), if_pos q2]; rfl
      · rw [if_neg (by omega), if_neg q2]; rfl
  · intro i s s' _ hI hst; exact netInv_step ns cs sf hs.1 hs.2 i s s' hI hst
  · intro k s _ _
    simp only [spec_Net.l0]
    rw [if_neg (by omega)]
theorem rep_succ (n i : Nat) (h : i < n) : List.replicate (n - i) (0 : Int) = 0 :: List.replicate (n - (i + 1)) 0 := by
  obtain ⟨d, hd⟩ : ∃ d, n - i = d + 1 := ⟨n - i - 1, by omega⟩
  rw [hd, show n - (i + 1) = d by omega, List.replicate_succ]
theorem set_mid (o : List Int) (r : List Int) (i : Nat) (v w : Int) (h : o.length = i) : (o ++ v :: r).set i w = (o ++ [w]) ++ r := by
  subst h
  induction o with
  | nil => rfl
  | cons x o ih => simp only [List.cons_append, List.length_cons, List.set_cons_succ, ih]
theorem rd_mid (o : List Int) (r : List Int) (i : Nat) (v : Int) (h : o.length = i) : rd (o ++ v :: r) (i : Int) = v := by
  unfold rd
  rw [getD_of (x := v)]
  rw [List.getElem?_append_right (by omega), h, Nat.sub_self]; rfl
theorem netImpl_loop (ns cs : List Int) (h sf : Int) (hh : 0 ≤ h ∧ h ≤ 1000000) (hs : 0 ≤ sf ∧ sf ≤ 1000000) (he : cs.length = ns.length) (hl : ns.length ≤ 40) (hn : ∀ j, j < ns.length → 0 ≤ rd ns (j : Nat) ∧ rd ns (j : Nat) ≤ 1000000) (hc : ∀ j, j < cs.length → 0 ≤ rd cs (j : Nat) ∧ rd cs (j : Nat) ≤ 1000000) (k : Nat) (hk : 1000 ≤ k) :
    impl_Net.l0 k ns sf cs (List.replicate ns.length 0) h (ns.length : Int) 0 = some (netTail ns cs h sf) := by
  refine loop_fold0 (fun k i s => impl_Net.l0 k ns sf cs (s.2 ++ List.replicate (ns.length - i.toNat) 0) s.1 (ns.length : Int) i) ns.length 0 1 (netStep ns cs sf) (fun s => (s.2, true)) netInv ?_ ?_ ?_ k (h, []) (by omega) ⟨hh.1, hh.2, rfl⟩
  · intro k i s _ hi hI
    unfold netInv at hI
    have a1 := hn i hi
    have a2 := hc i (by omega)
    simp only [impl_Net.l0, Int.toNat_natCast]
    rw [rep_succ ns.length i hi]
    have hz : (i : Int) < ((s.2 ++ 0 :: List.replicate (ns.length - (i + 1)) 0).length : Int) := by simp; omega
    rw [if_pos (by omega), if_pos (by omega), if_pos (by omega), if_pos (by omega), if_pos hz, if_pos hz]
    rw [w64 (x := rd cs i - rd ns i) (by omega) (by omega), w64 (x := s.1 + (rd cs i - rd ns i)) (by omega) (by omega), w64 (x := sf - _) (by omega) (by omega), w64i hi (by omega), set_mid _ _ _ _ _ hI.2.2]
    simp only [Option.bind_some]
    rw [List.append_assoc s.2, List.singleton_append, rd_mid _ _ _ _ hI.2.2, rd_mid _ _ _ _ hI.2.2]
    have e : s.1 + (rd cs i - rd ns i) = s.1 + rd cs i - rd ns i := by omega
    rw [e]
    unfold netStep
    by_cases q1 : s.1 + rd cs i - rd ns i < sf
    · rw [if_pos q1, if_pos q1]
      by_cases q2 : sf - (s.1 + rd cs i - rd ns i) ≤ 1000000
      · rw [if_neg (by omega), if_neg (by omega), if_pos q2]
        show _ = impl_Net.l0 k ns sf cs ((s.2 ++ [_]) ++ List.replicate (ns.length - (((i + 1 : Nat) : Int)).toNat) 0) sf (ns.length : Int) _
        rw [Int.toNat_natCast, List.append_assoc, List.singleton_append]
      · rw [if_pos (by omega), if_neg q2]; rfl
    · rw [if_neg q1, if_neg q1, if_neg (by omega)]
      by_cases q2 : s.1 + rd cs i - rd ns i ≤ 1000000
      · rw [if_neg (by omega), if_pos q2]
        show _ = impl_Net.l0 k ns sf cs ((s.2 ++ [0]) ++ List.replicate (ns.length - (((i + 1 : Nat) : Int)).toNat) 0) _ (ns.length : Int) _
        rw [Int.toNat_natCast, List.append_assoc, List.singleton_append]
      · rw [if_pos (by omega), if_neg q2]; rfl
  · intro i s s' _ hI hst; exact netInv_step ns cs sf hs.1 hs.2 i s s' hI hst
  · intro k s _ hI
    simp only [impl_Net.l0]
    rw [if_neg (by omega)]
    simp
def netVal (ns : List Int) (h sf : Int) (cs : List Int) : List Int × Bool := if ((bucketB ns && (bucketB cs && decide (ns.length = cs.length))) && (qtyB h && qtyB sf)) = true then netTail ns cs h sf else ([], false)
theorem netSpec_eq (ns : List Int) (h sf : Int) (cs : List Int) (h1 : ns.length ≤ 1048576) (h2 : cs.length ≤ 1048576) (k : Nat) (hk : 3000000 ≤ k) : spec_Net.f k ns h sf cs = some (netVal ns h sf cs) := by
  unfold spec_Net.f
  rw [l18List_eq ns (by omega) k (by omega), l18List_eq cs (by omega) k (by omega)]
  simp only [Option.bind_some, l12Qty_eq]
  obtain ⟨k, rfl⟩ : ∃ m, k = m + 1 := ⟨k - 1, by omega⟩
  have jb : ∀ b, spec_Net.j0 (k + 1) ns h sf cs [] b = if b = true then some ([], false) else spec_Net.l0 k ns h sf cs [] [] 0 := fun b => by simp only [spec_Net.j0]
  simp only [jb]
  unfold netVal
  cases hm : bucketB ns
  · simp
  · cases ho : bucketB cs
    · simp
    · have rm := bucketB_all ns hm
      have ro := bucketB_all cs ho
      by_cases he : ns.length = cs.length
      · by_cases q1 : qtyB h = true
        · by_cases q2 : qtyB sf = true
          · have e1 := q1
            have e2 := q2
            unfold qtyB at q1 q2
            rw [decide_eq_true_eq] at q1 q2
            rw [netSpec_loop ns cs [] h sf q1 q2 he.symm rm.1.2 rm.2 ro.2 rfl k (by omega), e1, e2, decide_eq_true q1, decide_eq_true q2, decide_eq_true he]
            simp [he]
          · have e2 := q2
            rw [Bool.not_eq_true] at e2
            rw [e2]
            unfold qtyB at q2
            rw [Bool.not_eq_true] at q2
            rw [q2]
            simp [he]
        · have e1 := q1
          rw [Bool.not_eq_true] at e1
          rw [e1]
          unfold qtyB at q1
          rw [Bool.not_eq_true] at q1
          rw [q1]
          simp [he]
      · rw [decide_eq_false he]
        have : ((ns.length : Int) = (cs.length : Int)) = False := eq_false (by omega)
        simp [this, he]
theorem netImpl_eq (ns : List Int) (h sf : Int) (cs : List Int) (h1 : ns.length ≤ 1048576) (h2 : cs.length ≤ 1048576) (k : Nat) (hk : 3000000 ≤ k) : impl_Net.f k ns h sf cs = some (netVal ns h sf cs) := by
  unfold impl_Net.f
  rw [listOk_eq ns ns.length (by omega) k (by omega), listOk_eq cs ns.length (by omega) k (by omega)]
  simp only [Option.bind_some, quantity_eq]
  obtain ⟨k, rfl⟩ : ∃ m, k = m + 1 := ⟨k - 1, by omega⟩
  have jb : ∀ b, impl_Net.j0 (k + 1) ns h sf cs b = if b = true then some ([], false) else impl_Net.l0 k ns sf cs (List.replicate ns.length 0) h (ns.length : Int) 0 := fun b => by
    simp only [impl_Net.j0]
    split
    · rfl
    · rw [if_pos (by omega), if_pos (by omega), Int.toNat_natCast]
  simp only [jb]
  unfold netVal
  cases hm : bucketB ns
  · simp
  · have rm := bucketB_all ns hm
    by_cases he : ns.length = cs.length
    · rw [decide_eq_true (show (cs.length : Int) = ns.length by omega), decide_eq_true he]
      cases ho : bucketB cs
      · simp
      · have ro := bucketB_all cs ho
        by_cases q1 : qtyB h = true
        · by_cases q2 : qtyB sf = true
          · have e1 := q1
            have e2 := q2
            unfold qtyB at q1 q2
            rw [decide_eq_true_eq] at q1 q2
            rw [netImpl_loop ns cs h sf q1 q2 he.symm rm.1.2 rm.2 ro.2 k (by omega), e1, e2, decide_eq_true q1, decide_eq_true q2]
            simp
          · have e2 := q2
            rw [Bool.not_eq_true] at e2
            rw [e2]
            unfold qtyB at q2
            rw [Bool.not_eq_true] at q2
            rw [q2]
            simp
        · have e1 := q1
          rw [Bool.not_eq_true] at e1
          rw [e1]
          unfold qtyB at q1
          rw [Bool.not_eq_true] at q1
          rw [q1]
          simp
    · rw [decide_eq_false (show ¬ (cs.length : Int) = ns.length by omega), decide_eq_false he]
      simp
theorem netVal_len (ns : List Int) (h sf : Int) (cs : List Int) (h1 : ns.length ≤ 1048576) : (netVal ns h sf cs).1.length ≤ 1048576 := by
  have key : ∀ (d i : Nat) (s : Int × List Int), s.2.length = i → (foldS (netStep ns cs sf) (fun s => (s.2, true)) d i s).1.length ≤ i + d := by
    intro d
    induction d with
    | zero => intro i s hs; unfold foldS; dsimp only; omega
    | succ d ih =>
      intro i s hs
      unfold foldS
      cases hst : netStep ns cs sf i s with
      | inl r =>
        unfold netStep at hst
        split at hst <;> split at hst <;> first | (cases hst; done) | (injection hst with hst; subst hst; simp)
      | inr s' =>
        have h2 : s'.2.length = i + 1 := by
          unfold netStep at hst
          split at hst <;> split at hst <;> first | (cases hst; done) | (injection hst with hst; subst hst; simp [hs])
        have := ih (i + 1) s' h2
        dsimp only
        omega
  unfold netVal
  split
  · unfold netTail; have := key ns.length 0 (h, []) rfl; omega
  · simp

theorem FnExactNet : laws_FnExactNet.Pure := by
  intro ns h sf cs h1 _ _ _ _ h2 _ _
  rw [maxLen_eq] at h1 h2
  refine ⟨4000003, ?_⟩
  unfold laws_FnExactNet.f
  by_cases hc1 : (ns.length : Int) > 1048576
  · rw [if_pos hc1]
  · rw [if_neg hc1]
    by_cases hc2 : (cs.length : Int) > 1048576
    · rw [if_pos hc2]
    · rw [if_neg hc2]
      have hv := netVal_len ns h sf cs (by omega)
      generalize hV : netVal ns h sf cs = V at hv
      rw [toIntS_eq ns (by omega) _ (by omega), toIntS_eq cs (by omega) _ (by omega)]
      simp only [Option.bind_some]
      rw [netSpec_eq ns h sf cs (by omega) (by omega) _ (by omega), netImpl_eq ns h sf cs (by omega) (by omega) _ (by omega), hV]
      simp only [Option.bind_some]
      rw [eqIntS_refl V.1 (by omega) _ (by omega)]
      simp only [Option.bind_some, if_true]
      show laws_FnExactNet.j0 (4000002 + 1) ns h sf cs V.1 V.2 ns cs V.1 V.2 _ = _
      simp only [laws_FnExactNet.j0]
      obtain ⟨M1, m1, m2, m3⟩ := markIntS_eq ns 1 (by omega) (by omega) 4000002 (by omega)
      obtain ⟨M2, m4, m5, m6⟩ := markIntS_eq cs (1 + ns.length) (by omega) (by omega) 4000002 (by omega)
      rw [if_neg (by simp), toIntS_eq ns (by omega) _ (by omega), toIntS_eq cs (by omega) _ (by omega)]
      simp only [Option.bind_some]
      rw [eqIntS_refl ns (by omega) _ (by omega), eqIntS_refl cs (by omega) _ (by omega)]
      simp only [Option.bind_some, if_true]
      rw [m1]
      simp only [Option.bind_some]
      rw [m4]
      simp only [Option.bind_some]
      rw [if_neg (by omega), eqIntS_refl V.1 (by omega) _ (by omega)]
      simp only [Option.bind_some, if_true]
      show laws_FnExactNet.j1 (4000001 + 1) ns h sf cs V.1 V.2 V.1 _ = _
      simp only [laws_FnExactNet.j1]
      obtain ⟨M3, m7, m8, m9⟩ := markIntS_eq V.1 1 (by omega) (by omega) 4000001 (by omega)
      rw [if_neg (by simp), m7]
      simp only [Option.bind_some]
      rw [heldIntS_eq M3 V.1.length 1 (by omega) (by omega) m8 m9 _ (by omega)]
      simp only [Option.bind_some]
      rw [if_neg (by omega), if_pos trivial, toIntS_eq ns (by omega) _ (by omega), toIntS_eq cs (by omega) _ (by omega)]
      simp only [Option.bind_some]
      rw [netImpl_eq ns h sf cs (by omega) (by omega) _ (by omega), hV]
      simp only [Option.bind_some]
      rw [eqIntS_refl V.1 (by omega) _ (by omega)]
      simp only [Option.bind_some, if_true]
      show laws_FnExactNet.j2 (4000000 + 1) M3 _ _ = _
      simp only [laws_FnExactNet.j2]
      rw [if_neg (by simp), heldIntS_eq M3 V.1.length 1 (by omega) (by omega) m8 m9 _ (by omega)]
      simp only [Option.bind_some]
      rw [if_neg (by omega), if_pos trivial]

end Go.Proofs.Ytegkhdobjcdfnac.Pure
