/- Lean forms and contracts of the functions that the law FnProposed reaches, laid by a program; those of functions that it does not take are hand-made. No condition is added. -/
import Derived.Test.YtdnfagcnojnmiaaPFnProposedx0
import Derived.Test.YtdnfagcnojnmiaaPFnProposedx1
import Derived.Test.YtdnfagcnojnmiaaPFnProposedx2
namespace Go.Proofs.Ytdnfagcnojnmiaa.PFnProposed
open Go.RowKit Go.Proofs.YtdnfagcnojnmiaaW.PrintWords Go.Proofs.YtdnfagcnojnmiaaW.PrintLast Go.Proofs.YtdnfagcnojnmiaaW.PrintMore
open Go.Maps Go.Proofs.Ytdnfagcnojnmiaa.MapAid
attribute [local go_sem] max2_int min2_int max_two min_two max_three min_three max_four min_four   -- for this text's walks alone
set_option linter.unusedVariables false
set_option linter.unusedSimpArgs false

/-! ### impl_Propose_1: function 60 -/
/-! (told with impl_Propose) -/

/-! ### impl_Propose: function 27 -/
section
open Go.Maps
def impl_Propose.inb (bills : List S54) (x : Int) : Bool := decide (0 ≤ x) && decide (x < (bills.length : Int))
def impl_Propose.lt2 (bills : List S54) (x y : Int) : Option Bool := if (impl_Propose.inb bills x && impl_Propose.inb bills y) = true then some (decide ((rd_T54 bills x).f2 > (rd_T54 bills y).f2)) else none
def impl_Propose.lt1 (bills : List S54) (x y : Int) : Option Bool := if (impl_Propose.inb bills x && impl_Propose.inb bills y) = true then some (decide ((rd_T54 bills x).f0 < (rd_T54 bills y).f0) || (decide ((rd_T54 bills x).f0 = (rd_T54 bills y).f0) && decide ((rd_T54 bills x).f3 > (rd_T54 bills y).f3))) else none
theorem impl_Propose.in2 {bills : List S54} {x y : Int} (h : (impl_Propose.inb bills x && impl_Propose.inb bills y) = true) : 0 ≤ x ∧ x < (bills.length : Int) ∧ 0 ≤ y ∧ y < (bills.length : Int) := by
  unfold impl_Propose.inb at h
  simp only [Bool.and_eq_true, decide_eq_true_eq] at h
  exact ⟨h.1.1, h.1.2, h.2.1, h.2.2⟩
def impl_Propose_2.T1 : Bool × List (List Nat × List Nat) := (true, [([], []), ([], []), ([0, 1], [0, 1]), ([2], [2]), ([3], [3]), ([], []), ([], []), ([5, 6], [5, 6]), ([7], [7]), ([8], [8]), ([4, 9], [4, 9]), ([10, 0, 1, 2, 3, 4, 5, 6, 7, 8, 9, 10], [10])])
def impl_Propose_2.B1 : List Nat := [0, 0, 3, 7, 15, 0, 0, 96, 224, 480, 1023, 2047]
theorem impl_Propose_2.tab1 : rtab .any (opsOf Try.f61 1) = impl_Propose_2.T1 := by kernel_rfl
theorem impl_Propose_2.bits1 : waitsOk impl_Propose_2.T1.2 impl_Propose_2.B1 = true := by kernel_rfl
set_option maxHeartbeats 8000000 in
set_option maxRecDepth 100000 in
/-- The second question that sortBy is given. -/
theorem impl_Propose.two (bills : List S54) (pB : Addr) (A : Option Addr) (c : Nat) (w : World) (h1 : w.cell? pB = some (.slice A bills.length c)) (hc : Kd.C k54 w A bills.length bills) (x y : Int) (b : Bool) (h : impl_Propose.lt2 bills x y = some b) :
    Calls Try.prog 61 #[.int .i64 x, .int .i64 y, .pointer (some pB)] w fun e w' => e = .returned (.bool b) ∧ Below w.heap.size w w' := by
  have hu54 := Try.underlying54
  unfold impl_Propose.lt2 at h
  by_cases hin : (impl_Propose.inb bills x && impl_Propose.inb bills y) = true
  case neg => rw [if_neg hin] at h; cases h
  rw [if_pos hin] at h
  obtain rfl := Option.some.inj h
  obtain ⟨hi0, hi1, hj0, hj1⟩ := impl_Propose.in2 hin
  clear h hin
  obtain ⟨ad, e_, _, _, hx2, _⟩ := at_T54 hc x hi0 hi1
  cases e_
  obtain ⟨ad', e_, _, _, hy2, _⟩ := at_T54 hc y hj0 hj1
  cases e_
  go_enter Try.func61, Try.ntmps61
  go_wp2
  refine start_ (n := 12) (S := fun w' => w'.cell? pB = some (.slice (some ad) bills.length c) ∧ w'.cell? ⟨(ad.add ((x).toNat * 4)).block, (ad.add ((x).toNat * 4)).off + 2, none⟩ = some (.int .i64 (rd_T54 bills x).f2) ∧ w'.cell? ⟨(ad.add ((y).toNat * 4)).block, (ad.add ((y).toNat * 4)).off + 2, none⟩ = some (.int .i64 (rd_T54 bills y).f2)) (ds := []) #[false, false, false, false, false, false, false, false, false, false, false, false] (by kernel_rfl) rfl rfl ⟨h1, hx2, hy2⟩ (fun hHeld => ?_); refine with_tabW impl_Propose_2.tab1 impl_Propose_2.bits1 (fun HT_ HW_ => ?_)
  generalize hw1 : w.drew = w1 at hHeld ⊢
  refine take_ (i := 0) (N := some 6) (v := ?_) (a' := ?_) #[true, false, false, false, false, false, false, false, false, false, false, false] rfl rfl (take_ofW HT_.out HW_.out (by kernel_rfl)) (fun _ _ _ h => h) (Or.inl ⟨by rfl, ?_⟩) hHeld ?_ ?_
  rotate_left
  · rintro w' ⟨s0, s1, s2⟩
    go_simp
    with_reducible rfl
  rotate_left
  · simp only [Act.put, List.setIfInBounds_toArray, List.set_cons_zero, List.set_cons_succ, i64_w, i32_w]
    rfl
  refine pure_ (i := 1) (N := some 7) (v := ?_) (a' := ?_) #[true, true, false, false, false, false, false, false, false, false, false, false] rfl rfl (any_of HT_.out (by kernel_rfl)) (fun _ _ _ h => h) (Or.inl ⟨by rfl, ?_⟩) ?_ ?_
  rotate_left
  · intro w'
    go_simp
    with_reducible rfl
  rotate_left
  · simp only [Act.put, List.setIfInBounds_toArray, List.set_cons_zero, List.set_cons_succ, i64_w, i32_w]
    rfl
  refine pure_ (i := 2) (N := some 8) (v := ?_) (a' := ?_) #[true, true, true, false, false, false, false, false, false, false, false, false] rfl rfl (any_of HT_.out (by kernel_rfl)) (fun _ _ _ h => h) (Or.inl ⟨by rfl, ?_⟩) ?_ ?_
  rotate_left
  · intro w'
    go_simp
    with_reducible rfl
  rotate_left
  · simp only [Act.put, List.setIfInBounds_toArray, List.set_cons_zero, List.set_cons_succ, i64_w, i32_w]
    rfl
  refine pure_ (i := 3) (N := some 9) (v := ?_) (a' := ?_) #[true, true, true, true, false, false, false, false, false, false, false, false] rfl rfl (any_of HT_.out (by kernel_rfl)) (fun _ _ _ h => h) (Or.inl ⟨by rfl, ?_⟩) ?_ ?_
  rotate_left
  · intro w'
    go_simp
    with_reducible rfl
  rotate_left
  · simp only [Act.put, List.setIfInBounds_toArray, List.set_cons_zero, List.set_cons_succ, i64_w, i32_w]
    rfl
  refine take_ (i := 4) (N := some 10) (v := ?_) (a' := ?_) #[true, true, true, true, true, false, false, false, false, false, false, false] rfl rfl (take_ofW HT_.out HW_.out (by kernel_rfl)) (fun _ _ _ h => h) (Or.inl ⟨by rfl, ?_⟩) hHeld ?_ ?_
  rotate_left
  · rintro w' ⟨s0, s1, s2⟩
    go_simp
    with_reducible rfl
  rotate_left
  · simp only [Act.put, List.setIfInBounds_toArray, List.set_cons_zero, List.set_cons_succ, i64_w, i32_w]
    rfl
  refine take_ (i := 5) (N := some 11) (v := ?_) (a' := ?_) #[true, true, true, true, true, true, false, false, false, false, false, false] rfl rfl (take_ofW HT_.out HW_.out (by kernel_rfl)) (fun _ _ _ h => h) (Or.inl ⟨by rfl, ?_⟩) hHeld ?_ ?_
  rotate_left
  · rintro w' ⟨s0, s1, s2⟩
    go_simp
    with_reducible rfl
  rotate_left
  · simp only [Act.put, List.setIfInBounds_toArray, List.set_cons_zero, List.set_cons_succ, i64_w, i32_w]
    rfl
  refine pure_ (i := 6) (N := some 12) (v := ?_) (a' := ?_) #[true, true, true, true, true, true, true, false, false, false, false, false] rfl rfl (any_of HT_.out (by kernel_rfl)) (fun _ _ _ h => h) (Or.inl ⟨by rfl, ?_⟩) ?_ ?_
  rotate_left
  · intro w'
    go_simp
    with_reducible rfl
  rotate_left
  · simp only [Act.put, List.setIfInBounds_toArray, List.set_cons_zero, List.set_cons_succ, i64_w, i32_w]
    rfl
  refine pure_ (i := 7) (N := some 13) (v := ?_) (a' := ?_) #[true, true, true, true, true, true, true, true, false, false, false, false] rfl rfl (any_of HT_.out (by kernel_rfl)) (fun _ _ _ h => h) (Or.inl ⟨by rfl, ?_⟩) ?_ ?_
  rotate_left
  · intro w'
    go_simp
    with_reducible rfl
  rotate_left
  · simp only [Act.put, List.setIfInBounds_toArray, List.set_cons_zero, List.set_cons_succ, i64_w, i32_w]
    rfl
  refine pure_ (i := 8) (N := some 14) (v := ?_) (a' := ?_) #[true, true, true, true, true, true, true, true, true, false, false, false] rfl rfl (any_of HT_.out (by kernel_rfl)) (fun _ _ _ h => h) (Or.inl ⟨by rfl, ?_⟩) ?_ ?_
  rotate_left
  · intro w'
    go_simp
    with_reducible rfl
  rotate_left
  · simp only [Act.put, List.setIfInBounds_toArray, List.set_cons_zero, List.set_cons_succ, i64_w, i32_w]
    rfl
  refine take_ (i := 9) (N := some 15) (v := ?_) (a' := ?_) #[true, true, true, true, true, true, true, true, true, true, false, false] rfl rfl (take_ofW HT_.out HW_.out (by kernel_rfl)) (fun _ _ _ h => h) (Or.inl ⟨by rfl, ?_⟩) hHeld ?_ ?_
  rotate_left
  · rintro w' ⟨s0, s1, s2⟩
    go_simp
    with_reducible rfl
  rotate_left
  · simp only [Act.put, List.setIfInBounds_toArray, List.set_cons_zero, List.set_cons_succ, i64_w, i32_w]
    rfl
  refine pure_ (i := 10) (N := some 16) (v := ?_) (a' := ?_) #[true, true, true, true, true, true, true, true, true, true, true, false] rfl rfl (any_of HT_.out (by kernel_rfl)) (fun _ _ _ h => h) (Or.inl ⟨by rfl, ?_⟩) ?_ ?_
  rotate_left
  · intro w'
    go_simp
    with_reducible rfl
  rotate_left
  · simp only [Act.put, List.setIfInBounds_toArray, List.set_cons_zero, List.set_cons_succ, i64_w, i32_w]
    rfl
  refine pure_ (i := 11) (N := some 5) (v := ?_) (a' := ?_) #[true, true, true, true, true, true, true, true, true, true, true, true] rfl rfl (any_of HT_.out (by kernel_rfl)) (fun _ _ _ h => h) (Or.inl ⟨by rfl, ?_⟩) ?_ ?_
  rotate_left
  · intro w'
    go_simp
    with_reducible rfl
  rotate_left
  · simp only [Act.put, List.setIfInBounds_toArray, List.set_cons_zero, List.set_cons_succ, i64_w, i32_w]
    rfl
  refine done_ (done_of HT_.out (by kernel_rfl)) ?_
  go_wp2
  go_ret
  exact ⟨rfl, hw1 ▸ below_drew (Below.refl _ _)⟩
def impl_Propose_1.T1 : Bool × List (List Nat × List Nat) := (true, [([], []), ([], []), ([0, 1], [0, 1]), ([2], [2]), ([], []), ([], []), ([4, 5], [4, 5]), ([6], [6]), ([], []), ([], []), ([8, 3, 0, 1, 2, 3, 8, 9], [3, 8]), ([9, 7, 10, 0, 1, 2, 3, 4, 5, 6, 7, 8, 9, 10], [7, 9])])
def impl_Propose_1.B1 : List Nat := [0, 0, 3, 7, 0, 0, 48, 112, 0, 0, 783, 2047]
theorem impl_Propose_1.tab1 : rtab .any (opsOf Try.f60 1) = impl_Propose_1.T1 := by kernel_rfl
theorem impl_Propose_1.bits1 : waitsOk impl_Propose_1.T1.2 impl_Propose_1.B1 = true := by kernel_rfl
set_option maxHeartbeats 8000000 in
set_option maxRecDepth 100000 in
/-- The first question that sortBy is given. -/
theorem impl_Propose.one (bills : List S54) (pB : Addr) (A : Option Addr) (c : Nat) (w : World) (h1 : w.cell? pB = some (.slice A bills.length c)) (hc : Kd.C k54 w A bills.length bills) (x y : Int) (b : Bool) (h : impl_Propose.lt1 bills x y = some b) :
    Calls Try.prog 60 #[.int .i64 x, .int .i64 y, .pointer (some pB)] w fun e w' => e = .returned (.bool b) ∧ Below w.heap.size w w' := by
  have hu54 := Try.underlying54
  unfold impl_Propose.lt1 at h
  by_cases hin : (impl_Propose.inb bills x && impl_Propose.inb bills y) = true
  case neg => rw [if_neg hin] at h; cases h
  rw [if_pos hin] at h
  obtain rfl := Option.some.inj h
  obtain ⟨hi0, hi1, hj0, hj1⟩ := impl_Propose.in2 hin
  clear h hin
  obtain ⟨ad, e_, hx0, hx1, hx2, hx3⟩ := at_T54 hc x hi0 hi1
  cases e_
  obtain ⟨ad', e_, hy0, hy1, hy2, hy3⟩ := at_T54 hc y hj0 hj1
  cases e_
  clear hc
  go_enter Try.func60, Try.ntmps60
  go_wp2
  refine start_ (n := 12) (S := fun w' => w'.cell? pB = some (.slice (some ad) bills.length c) ∧ w'.cell? (ad.add ((x).toNat * 4)) = some (.int .i64 (rd_T54 bills x).f0) ∧ w'.cell? ⟨(ad.add ((x).toNat * 4)).block, (ad.add ((x).toNat * 4)).off + 1, none⟩ = some (.int .i64 (rd_T54 bills x).f1) ∧ w'.cell? ⟨(ad.add ((x).toNat * 4)).block, (ad.add ((x).toNat * 4)).off + 2, none⟩ = some (.int .i64 (rd_T54 bills x).f2) ∧ w'.cell? ⟨(ad.add ((x).toNat * 4)).block, (ad.add ((x).toNat * 4)).off + 3, none⟩ = some (.int .i64 (rd_T54 bills x).f3) ∧ w'.cell? (ad.add ((y).toNat * 4)) = some (.int .i64 (rd_T54 bills y).f0) ∧ w'.cell? ⟨(ad.add ((y).toNat * 4)).block, (ad.add ((y).toNat * 4)).off + 1, none⟩ = some (.int .i64 (rd_T54 bills y).f1) ∧ w'.cell? ⟨(ad.add ((y).toNat * 4)).block, (ad.add ((y).toNat * 4)).off + 2, none⟩ = some (.int .i64 (rd_T54 bills y).f2) ∧ w'.cell? ⟨(ad.add ((y).toNat * 4)).block, (ad.add ((y).toNat * 4)).off + 3, none⟩ = some (.int .i64 (rd_T54 bills y).f3)) (ds := [11]) #[false, false, false, false, false, false, false, false, false, false, false, false] (by kernel_rfl) rfl rfl ⟨h1, hx0, hx1, hx2, hx3, hy0, hy1, hy2, hy3⟩ (fun hHeld => ?_); refine with_tabW impl_Propose_1.tab1 impl_Propose_1.bits1 (fun HT_ HW_ => ?_)
  generalize hw1 : w.drew = w1 at hHeld ⊢
  refine take_ (i := 0) (N := some 8) (v := ?_) (a' := ?_) #[true, false, false, false, false, false, false, false, false, false, false, false] rfl rfl (take_ofW HT_.out HW_.out (by kernel_rfl)) (fun _ _ _ h => h) (Or.inl ⟨by rfl, ?_⟩) hHeld ?_ ?_
  rotate_left
  · rintro w' ⟨s0, s1, s2, s3, s4, s5, s6, s7, s8⟩
    go_simp
    with_reducible rfl
  rotate_left
  · simp only [Act.put, List.setIfInBounds_toArray, List.set_cons_zero, List.set_cons_succ, i64_w, i32_w]
    rfl
  refine pure_ (i := 1) (N := some 9) (v := ?_) (a' := ?_) #[true, true, false, false, false, false, false, false, false, false, false, false] rfl rfl (any_of HT_.out (by kernel_rfl)) (fun _ _ _ h => h) (Or.inl ⟨by rfl, ?_⟩) ?_ ?_
  rotate_left
  · intro w'
    go_simp
    with_reducible rfl
  rotate_left
  · simp only [Act.put, List.setIfInBounds_toArray, List.set_cons_zero, List.set_cons_succ, i64_w, i32_w]
    rfl
  refine pure_ (i := 2) (N := some 10) (v := ?_) (a' := ?_) #[true, true, true, false, false, false, false, false, false, false, false, false] rfl rfl (any_of HT_.out (by kernel_rfl)) (fun _ _ _ h => h) (Or.inl ⟨by rfl, ?_⟩) ?_ ?_
  rotate_left
  · intro w'
    go_simp
    with_reducible rfl
  rotate_left
  · simp only [Act.put, List.setIfInBounds_toArray, List.set_cons_zero, List.set_cons_succ, i64_w, i32_w]
    rfl
  refine take_ (i := 3) (N := some 11) (v := ?_) (a' := ?_) #[true, true, true, true, false, false, false, false, false, false, false, false] rfl rfl (take_ofW HT_.out HW_.out (by kernel_rfl)) (fun _ _ _ h => h) (Or.inl ⟨by rfl, ?_⟩) hHeld ?_ ?_
  rotate_left
  · rintro w' ⟨s0, s1, s2, s3, s4, s5, s6, s7, s8⟩
    go_simp
    with_reducible rfl
  rotate_left
  · simp only [Act.put, List.setIfInBounds_toArray, List.set_cons_zero, List.set_cons_succ, i64_w, i32_w]
    rfl
  refine take_ (i := 4) (N := some 12) (v := ?_) (a' := ?_) #[true, true, true, true, true, false, false, false, false, false, false, false] rfl rfl (take_ofW HT_.out HW_.out (by kernel_rfl)) (fun _ _ _ h => h) (Or.inl ⟨by rfl, ?_⟩) hHeld ?_ ?_
  rotate_left
  · rintro w' ⟨s0, s1, s2, s3, s4, s5, s6, s7, s8⟩
    go_simp
    with_reducible rfl
  rotate_left
  · simp only [Act.put, List.setIfInBounds_toArray, List.set_cons_zero, List.set_cons_succ, i64_w, i32_w]
    rfl
  refine pure_ (i := 5) (N := some 13) (v := ?_) (a' := ?_) #[true, true, true, true, true, true, false, false, false, false, false, false] rfl rfl (any_of HT_.out (by kernel_rfl)) (fun _ _ _ h => h) (Or.inl ⟨by rfl, ?_⟩) ?_ ?_
  rotate_left
  · intro w'
    go_simp
    with_reducible rfl
  rotate_left
  · simp only [Act.put, List.setIfInBounds_toArray, List.set_cons_zero, List.set_cons_succ, i64_w, i32_w]
    rfl
  refine pure_ (i := 6) (N := some 14) (v := ?_) (a' := ?_) #[true, true, true, true, true, true, true, false, false, false, false, false] rfl rfl (any_of HT_.out (by kernel_rfl)) (fun _ _ _ h => h) (Or.inl ⟨by rfl, ?_⟩) ?_ ?_
  rotate_left
  · intro w'
    go_simp
    with_reducible rfl
  rotate_left
  · simp only [Act.put, List.setIfInBounds_toArray, List.set_cons_zero, List.set_cons_succ, i64_w, i32_w]
    rfl
  refine take_ (i := 7) (N := some 15) (v := ?_) (a' := ?_) #[true, true, true, true, true, true, true, true, false, false, false, false] rfl rfl (take_ofW HT_.out HW_.out (by kernel_rfl)) (fun _ _ _ h => h) (Or.inl ⟨by rfl, ?_⟩) hHeld ?_ ?_
  rotate_left
  · rintro w' ⟨s0, s1, s2, s3, s4, s5, s6, s7, s8⟩
    go_simp
    with_reducible rfl
  rotate_left
  · simp only [Act.put, List.setIfInBounds_toArray, List.set_cons_zero, List.set_cons_succ, i64_w, i32_w]
    rfl
  refine join_ 2 #[true, true, true, true, true, true, true, true, true, true, false, false] (fun s : Nat × Nat => [(6, .pointer (some ⟨s.1, 0, none⟩)), (7, .pointer (some ⟨s.2, 0, none⟩))]) (fun s w' => s.1 ≠ s.2 ∧ w1.heap.size ≤ s.1 ∧ w1.heap.size ≤ s.2 ∧ w'.heap[s.1]? = some (.cells #[.int .i64 0, .int .i64 0, .int .i64 0, .int .i64 0] 54 (0, 0)) ∧ w'.heap[s.2]? = some (.cells #[.int .i64 0, .int .i64 0, .int .i64 0, .int .i64 0] 54 (0, 0)) ∧ Below w1.heap.size w1 w') ?cont ?h
  case h =>
    intro hj
    refine two_ (i := 8) (j := 9) (Ni := some 6) (Nj := some 7) #[true, true, true, true, true, true, true, true, true, false, false, false] #[true, true, true, true, true, true, true, true, false, true, false, false] rfl rfl rfl rfl (two_of HT_.out (by kernel_rfl)) (by decide) (by decide) (fun K hK => ?_) (fun K hK => ?_)
    · refine value_ (w1 := w1.alloc (.cells #[.int .i64 0, .int .i64 0, .int .i64 0, .int .i64 0] 54 (0, 0))) (v := .pointer (some ⟨w1.heap.size, 0, none⟩)) (by rfl) rfl ?_ ?_
      · go_simp
      refine hK.out _ _ ⟨(World.cell?_alloc_lt _ _ _ (World.block_lt_of_cell? _ _ (hHeld.1))).trans (hHeld.1), (World.cell?_alloc_lt _ _ _ (World.block_lt_of_cell? _ _ (hHeld.2.1))).trans (hHeld.2.1), (World.cell?_alloc_lt _ _ _ (World.block_lt_of_cell? _ _ (hHeld.2.2.1))).trans (hHeld.2.2.1), (World.cell?_alloc_lt _ _ _ (World.block_lt_of_cell? _ _ (hHeld.2.2.2.1))).trans (hHeld.2.2.2.1), (World.cell?_alloc_lt _ _ _ (World.block_lt_of_cell? _ _ (hHeld.2.2.2.2.1))).trans (hHeld.2.2.2.2.1), (World.cell?_alloc_lt _ _ _ (World.block_lt_of_cell? _ _ (hHeld.2.2.2.2.2.1))).trans (hHeld.2.2.2.2.2.1), (World.cell?_alloc_lt _ _ _ (World.block_lt_of_cell? _ _ (hHeld.2.2.2.2.2.2.1))).trans (hHeld.2.2.2.2.2.2.1), (World.cell?_alloc_lt _ _ _ (World.block_lt_of_cell? _ _ (hHeld.2.2.2.2.2.2.2.1))).trans (hHeld.2.2.2.2.2.2.2.1), (World.cell?_alloc_lt _ _ _ (World.block_lt_of_cell? _ _ (hHeld.2.2.2.2.2.2.2.2))).trans (hHeld.2.2.2.2.2.2.2.2)⟩ (fun hHeld => ?_)
      clear hK K
      refine one_ (i := 9) (N := some 7) #[true, true, true, true, true, true, true, true, true, true, false, false] rfl rfl (one_of HT_.out (by kernel_rfl)) (by decide) (fun K hK => ?_)
      refine value_ (w1 := (w1.alloc (.cells #[.int .i64 0, .int .i64 0, .int .i64 0, .int .i64 0] 54 (0, 0))).alloc (.cells #[.int .i64 0, .int .i64 0, .int .i64 0, .int .i64 0] 54 (0, 0))) (v := .pointer (some ⟨w1.heap.size + 1, 0, none⟩)) (by rfl) rfl ?_ ?_
      · go_simp
      refine hK.out _ _ ⟨(World.cell?_alloc_lt _ _ _ (World.block_lt_of_cell? _ _ (hHeld.1))).trans (hHeld.1), (World.cell?_alloc_lt _ _ _ (World.block_lt_of_cell? _ _ (hHeld.2.1))).trans (hHeld.2.1), (World.cell?_alloc_lt _ _ _ (World.block_lt_of_cell? _ _ (hHeld.2.2.1))).trans (hHeld.2.2.1), (World.cell?_alloc_lt _ _ _ (World.block_lt_of_cell? _ _ (hHeld.2.2.2.1))).trans (hHeld.2.2.2.1), (World.cell?_alloc_lt _ _ _ (World.block_lt_of_cell? _ _ (hHeld.2.2.2.2.1))).trans (hHeld.2.2.2.2.1), (World.cell?_alloc_lt _ _ _ (World.block_lt_of_cell? _ _ (hHeld.2.2.2.2.2.1))).trans (hHeld.2.2.2.2.2.1), (World.cell?_alloc_lt _ _ _ (World.block_lt_of_cell? _ _ (hHeld.2.2.2.2.2.2.1))).trans (hHeld.2.2.2.2.2.2.1), (World.cell?_alloc_lt _ _ _ (World.block_lt_of_cell? _ _ (hHeld.2.2.2.2.2.2.2.1))).trans (hHeld.2.2.2.2.2.2.2.1), (World.cell?_alloc_lt _ _ _ (World.block_lt_of_cell? _ _ (hHeld.2.2.2.2.2.2.2.2))).trans (hHeld.2.2.2.2.2.2.2.2)⟩ (fun hHeld => ?_)
      exact hj (w1.heap.size, w1.heap.size + 1) _ ⟨by simp, Nat.le_refl _, Nat.le_succ _, blk_alloc (blk_new _ _) _, (by simpa using blk_new (w1.alloc (.cells #[.int .i64 0, .int .i64 0, .int .i64 0, .int .i64 0] 54 (0, 0))) (.cells #[.int .i64 0, .int .i64 0, .int .i64 0, .int .i64 0] 54 (0, 0))), below_alloc (below_alloc (Below.refl _ _) _) _⟩
    · refine value_ (w1 := w1.alloc (.cells #[.int .i64 0, .int .i64 0, .int .i64 0, .int .i64 0] 54 (0, 0))) (v := .pointer (some ⟨w1.heap.size, 0, none⟩)) (by rfl) rfl ?_ ?_
      · go_simp
      refine hK.out _ _ ⟨(World.cell?_alloc_lt _ _ _ (World.block_lt_of_cell? _ _ (hHeld.1))).trans (hHeld.1), (World.cell?_alloc_lt _ _ _ (World.block_lt_of_cell? _ _ (hHeld.2.1))).trans (hHeld.2.1), (World.cell?_alloc_lt _ _ _ (World.block_lt_of_cell? _ _ (hHeld.2.2.1))).trans (hHeld.2.2.1), (World.cell?_alloc_lt _ _ _ (World.block_lt_of_cell? _ _ (hHeld.2.2.2.1))).trans (hHeld.2.2.2.1), (World.cell?_alloc_lt _ _ _ (World.block_lt_of_cell? _ _ (hHeld.2.2.2.2.1))).trans (hHeld.2.2.2.2.1), (World.cell?_alloc_lt _ _ _ (World.block_lt_of_cell? _ _ (hHeld.2.2.2.2.2.1))).trans (hHeld.2.2.2.2.2.1), (World.cell?_alloc_lt _ _ _ (World.block_lt_of_cell? _ _ (hHeld.2.2.2.2.2.2.1))).trans (hHeld.2.2.2.2.2.2.1), (World.cell?_alloc_lt _ _ _ (World.block_lt_of_cell? _ _ (hHeld.2.2.2.2.2.2.2.1))).trans (hHeld.2.2.2.2.2.2.2.1), (World.cell?_alloc_lt _ _ _ (World.block_lt_of_cell? _ _ (hHeld.2.2.2.2.2.2.2.2))).trans (hHeld.2.2.2.2.2.2.2.2)⟩ (fun hHeld => ?_)
      clear hK K
      refine one_ (i := 8) (N := some 6) #[true, true, true, true, true, true, true, true, true, true, false, false] rfl rfl (one_of HT_.out (by kernel_rfl)) (by decide) (fun K hK => ?_)
      refine value_ (w1 := (w1.alloc (.cells #[.int .i64 0, .int .i64 0, .int .i64 0, .int .i64 0] 54 (0, 0))).alloc (.cells #[.int .i64 0, .int .i64 0, .int .i64 0, .int .i64 0] 54 (0, 0))) (v := .pointer (some ⟨w1.heap.size + 1, 0, none⟩)) (by rfl) rfl ?_ ?_
      · go_simp
      refine hK.out _ _ ⟨(World.cell?_alloc_lt _ _ _ (World.block_lt_of_cell? _ _ (hHeld.1))).trans (hHeld.1), (World.cell?_alloc_lt _ _ _ (World.block_lt_of_cell? _ _ (hHeld.2.1))).trans (hHeld.2.1), (World.cell?_alloc_lt _ _ _ (World.block_lt_of_cell? _ _ (hHeld.2.2.1))).trans (hHeld.2.2.1), (World.cell?_alloc_lt _ _ _ (World.block_lt_of_cell? _ _ (hHeld.2.2.2.1))).trans (hHeld.2.2.2.1), (World.cell?_alloc_lt _ _ _ (World.block_lt_of_cell? _ _ (hHeld.2.2.2.2.1))).trans (hHeld.2.2.2.2.1), (World.cell?_alloc_lt _ _ _ (World.block_lt_of_cell? _ _ (hHeld.2.2.2.2.2.1))).trans (hHeld.2.2.2.2.2.1), (World.cell?_alloc_lt _ _ _ (World.block_lt_of_cell? _ _ (hHeld.2.2.2.2.2.2.1))).trans (hHeld.2.2.2.2.2.2.1), (World.cell?_alloc_lt _ _ _ (World.block_lt_of_cell? _ _ (hHeld.2.2.2.2.2.2.2.1))).trans (hHeld.2.2.2.2.2.2.2.1), (World.cell?_alloc_lt _ _ _ (World.block_lt_of_cell? _ _ (hHeld.2.2.2.2.2.2.2.2))).trans (hHeld.2.2.2.2.2.2.2.2)⟩ (fun hHeld => ?_)
      exact hj (w1.heap.size + 1, w1.heap.size) _ ⟨by simp, Nat.le_succ _, Nat.le_refl _, (by simpa using blk_new (w1.alloc (.cells #[.int .i64 0, .int .i64 0, .int .i64 0, .int .i64 0] 54 (0, 0))) (.cells #[.int .i64 0, .int .i64 0, .int .i64 0, .int .i64 0] 54 (0, 0))), blk_alloc (blk_new _ _) _, below_alloc (below_alloc (Below.refl _ _) _) _⟩
  case cont =>
    rintro ⟨g6, g7⟩ w2 ⟨hne, hg6, hg7, B6, B7, hb⟩
    dsimp only at hne hg6 hg7 B6 B7
    refine norm_ (a' := ?_) ?_ ?_
    rotate_left
    · simp only [putAll, Act.put, List.setIfInBounds_toArray, List.set_cons_zero, List.set_cons_succ]
      rfl
    refine one_ (i := 10) (N := none) #[true, true, true, true, true, true, true, true, true, true, true, false] rfl rfl (one_of HT_.out (by kernel_rfl)) (by decide) (fun K hK => ?_)
    have hs0 : w2.cell? ⟨g6, 0, none⟩ = some (.int .i64 0) := (blk_cell B6 0).trans rfl
    have hf0 := blk_frozen B6 0
    have hs1 : w2.cell? ⟨g6, 1, none⟩ = some (.int .i64 0) := (blk_cell B6 1).trans rfl
    have hf1 := blk_frozen B6 1
    have hs2 : w2.cell? ⟨g6, 2, none⟩ = some (.int .i64 0) := (blk_cell B6 2).trans rfl
    have hf2 := blk_frozen B6 2
    have hs3 : w2.cell? ⟨g6, 3, none⟩ = some (.int .i64 0) := (blk_cell B6 3).trans rfl
    have hf3 := blk_frozen B6 3
    refine skip_ (w1 := ((((w2.setCell ⟨g6, 0, none⟩ (.int .i64 (rd_T54 bills x).f0)).setCell ⟨g6, 1, none⟩ (.int .i64 (rd_T54 bills x).f1)).setCell ⟨g6, 2, none⟩ (.int .i64 (rd_T54 bills x).f2)).setCell ⟨g6, 3, none⟩ (.int .i64 (rd_T54 bills x).f3))) (by rfl) rfl ?_ ?_
    · go_simp
    have HB3 : Below w1.heap.size w1 ((((w2.setCell ⟨g6, 0, none⟩ (.int .i64 (rd_T54 bills x).f0)).setCell ⟨g6, 1, none⟩ (.int .i64 (rd_T54 bills x).f1)).setCell ⟨g6, 2, none⟩ (.int .i64 (rd_T54 bills x).f2)).setCell ⟨g6, 3, none⟩ (.int .i64 (rd_T54 bills x).f3)) := (below_set (below_set (below_set (below_set hb hg6 (j := 0) (v := .int .i64 (rd_T54 bills x).f0)) hg6 (j := 1) (v := .int .i64 (rd_T54 bills x).f1)) hg6 (j := 2) (v := .int .i64 (rd_T54 bills x).f2)) hg6 (j := 3) (v := .int .i64 (rd_T54 bills x).f3))
    have B6' : ((((w2.setCell ⟨g6, 0, none⟩ (.int .i64 (rd_T54 bills x).f0)).setCell ⟨g6, 1, none⟩ (.int .i64 (rd_T54 bills x).f1)).setCell ⟨g6, 2, none⟩ (.int .i64 (rd_T54 bills x).f2)).setCell ⟨g6, 3, none⟩ (.int .i64 (rd_T54 bills x).f3)).heap[g6]? = some (.cells #[.int .i64 (rd_T54 bills x).f0, .int .i64 (rd_T54 bills x).f1, .int .i64 (rd_T54 bills x).f2, .int .i64 (rd_T54 bills x).f3] 54 (0, 0)) := by
      refine blk_put (cs := #[.int .i64 (rd_T54 bills x).f0, .int .i64 (rd_T54 bills x).f1, .int .i64 (rd_T54 bills x).f2, .int .i64 0]) ?_ 3 _ rfl
      refine blk_put (cs := #[.int .i64 (rd_T54 bills x).f0, .int .i64 (rd_T54 bills x).f1, .int .i64 0, .int .i64 0]) ?_ 2 _ rfl
      refine blk_put (cs := #[.int .i64 (rd_T54 bills x).f0, .int .i64 0, .int .i64 0, .int .i64 0]) ?_ 1 _ rfl
      refine blk_put (cs := #[.int .i64 0, .int .i64 0, .int .i64 0, .int .i64 0]) ?_ 0 _ rfl
      exact B6
    have B7' : ((((w2.setCell ⟨g6, 0, none⟩ (.int .i64 (rd_T54 bills x).f0)).setCell ⟨g6, 1, none⟩ (.int .i64 (rd_T54 bills x).f1)).setCell ⟨g6, 2, none⟩ (.int .i64 (rd_T54 bills x).f2)).setCell ⟨g6, 3, none⟩ (.int .i64 (rd_T54 bills x).f3)).heap[g7]? = some (.cells #[.int .i64 0, .int .i64 0, .int .i64 0, .int .i64 0] 54 (0, 0)) := by
      refine blk_far (blk_far (blk_far (blk_far B7 hne.symm _) hne.symm _) hne.symm _) hne.symm _
    clear hs0 hf0 hs1 hf1 hs2 hf2 hs3 hf3 B6 B7 hb
    generalize ((((w2.setCell ⟨g6, 0, none⟩ (.int .i64 (rd_T54 bills x).f0)).setCell ⟨g6, 1, none⟩ (.int .i64 (rd_T54 bills x).f1)).setCell ⟨g6, 2, none⟩ (.int .i64 (rd_T54 bills x).f2)).setCell ⟨g6, 3, none⟩ (.int .i64 (rd_T54 bills x).f3)) = w3 at HB3 B6' B7' ⊢
    refine hK.out _ _ ⟨(HB3.cell (World.block_lt_of_cell? _ _ (hHeld.1))).trans (hHeld.1), (HB3.cell (World.block_lt_of_cell? _ _ (hHeld.2.1))).trans (hHeld.2.1), (HB3.cell (World.block_lt_of_cell? _ _ (hHeld.2.2.1))).trans (hHeld.2.2.1), (HB3.cell (World.block_lt_of_cell? _ _ (hHeld.2.2.2.1))).trans (hHeld.2.2.2.1), (HB3.cell (World.block_lt_of_cell? _ _ (hHeld.2.2.2.2.1))).trans (hHeld.2.2.2.2.1), (HB3.cell (World.block_lt_of_cell? _ _ (hHeld.2.2.2.2.2.1))).trans (hHeld.2.2.2.2.2.1), (HB3.cell (World.block_lt_of_cell? _ _ (hHeld.2.2.2.2.2.2.1))).trans (hHeld.2.2.2.2.2.2.1), (HB3.cell (World.block_lt_of_cell? _ _ (hHeld.2.2.2.2.2.2.2.1))).trans (hHeld.2.2.2.2.2.2.2.1), (HB3.cell (World.block_lt_of_cell? _ _ (hHeld.2.2.2.2.2.2.2.2))).trans (hHeld.2.2.2.2.2.2.2.2)⟩ (fun hHeld => ?_)
    clear hK K
    refine norm_ (a' := ?_) ?_ ?_
    rotate_left
    · rfl
    refine last_ (i := 11) (N := none) #[true, true, true, true, true, true, true, true, true, true, true, true] rfl rfl (one_of HT_.out (by kernel_rfl)) (by decide) (fun K hK => ?_)
    have hs0 : w3.cell? ⟨g7, 0, none⟩ = some (.int .i64 0) := (blk_cell B7' 0).trans rfl
    have hf0 := blk_frozen B7' 0
    have hs1 : w3.cell? ⟨g7, 1, none⟩ = some (.int .i64 0) := (blk_cell B7' 1).trans rfl
    have hf1 := blk_frozen B7' 1
    have hs2 : w3.cell? ⟨g7, 2, none⟩ = some (.int .i64 0) := (blk_cell B7' 2).trans rfl
    have hf2 := blk_frozen B7' 2
    have hs3 : w3.cell? ⟨g7, 3, none⟩ = some (.int .i64 0) := (blk_cell B7' 3).trans rfl
    have hf3 := blk_frozen B7' 3
    refine skip_ (w1 := ((((w3.setCell ⟨g7, 0, none⟩ (.int .i64 (rd_T54 bills y).f0)).setCell ⟨g7, 1, none⟩ (.int .i64 (rd_T54 bills y).f1)).setCell ⟨g7, 2, none⟩ (.int .i64 (rd_T54 bills y).f2)).setCell ⟨g7, 3, none⟩ (.int .i64 (rd_T54 bills y).f3))) (by rfl) rfl ?_ ?_
    · go_simp
    have HB4 : Below w1.heap.size w1 ((((w3.setCell ⟨g7, 0, none⟩ (.int .i64 (rd_T54 bills y).f0)).setCell ⟨g7, 1, none⟩ (.int .i64 (rd_T54 bills y).f1)).setCell ⟨g7, 2, none⟩ (.int .i64 (rd_T54 bills y).f2)).setCell ⟨g7, 3, none⟩ (.int .i64 (rd_T54 bills y).f3)) := (below_set (below_set (below_set (below_set HB3 hg7 (j := 0) (v := .int .i64 (rd_T54 bills y).f0)) hg7 (j := 1) (v := .int .i64 (rd_T54 bills y).f1)) hg7 (j := 2) (v := .int .i64 (rd_T54 bills y).f2)) hg7 (j := 3) (v := .int .i64 (rd_T54 bills y).f3))
    have C6 : ((((w3.setCell ⟨g7, 0, none⟩ (.int .i64 (rd_T54 bills y).f0)).setCell ⟨g7, 1, none⟩ (.int .i64 (rd_T54 bills y).f1)).setCell ⟨g7, 2, none⟩ (.int .i64 (rd_T54 bills y).f2)).setCell ⟨g7, 3, none⟩ (.int .i64 (rd_T54 bills y).f3)).heap[g6]? = some (.cells #[.int .i64 (rd_T54 bills x).f0, .int .i64 (rd_T54 bills x).f1, .int .i64 (rd_T54 bills x).f2, .int .i64 (rd_T54 bills x).f3] 54 (0, 0)) := by
      refine blk_far (blk_far (blk_far (blk_far B6' hne _) hne _) hne _) hne _
    have C7 : ((((w3.setCell ⟨g7, 0, none⟩ (.int .i64 (rd_T54 bills y).f0)).setCell ⟨g7, 1, none⟩ (.int .i64 (rd_T54 bills y).f1)).setCell ⟨g7, 2, none⟩ (.int .i64 (rd_T54 bills y).f2)).setCell ⟨g7, 3, none⟩ (.int .i64 (rd_T54 bills y).f3)).heap[g7]? = some (.cells #[.int .i64 (rd_T54 bills y).f0, .int .i64 (rd_T54 bills y).f1, .int .i64 (rd_T54 bills y).f2, .int .i64 (rd_T54 bills y).f3] 54 (0, 0)) := by
      refine blk_put (cs := #[.int .i64 (rd_T54 bills y).f0, .int .i64 (rd_T54 bills y).f1, .int .i64 (rd_T54 bills y).f2, .int .i64 0]) ?_ 3 _ rfl
      refine blk_put (cs := #[.int .i64 (rd_T54 bills y).f0, .int .i64 (rd_T54 bills y).f1, .int .i64 0, .int .i64 0]) ?_ 2 _ rfl
      refine blk_put (cs := #[.int .i64 (rd_T54 bills y).f0, .int .i64 0, .int .i64 0, .int .i64 0]) ?_ 1 _ rfl
      refine blk_put (cs := #[.int .i64 0, .int .i64 0, .int .i64 0, .int .i64 0]) ?_ 0 _ rfl
      exact B7'
    clear hs0 hf0 hs1 hf1 hs2 hf2 hs3 hf3 B6' B7' HB3
    generalize ((((w3.setCell ⟨g7, 0, none⟩ (.int .i64 (rd_T54 bills y).f0)).setCell ⟨g7, 1, none⟩ (.int .i64 (rd_T54 bills y).f1)).setCell ⟨g7, 2, none⟩ (.int .i64 (rd_T54 bills y).f2)).setCell ⟨g7, 3, none⟩ (.int .i64 (rd_T54 bills y).f3)) = w4 at HB4 C6 C7 ⊢
    refine hK.out _ _ ?_
    clear hK K
    refine done_ (done_of HT_.out (by kernel_rfl)) ?_
    clear HT_ HW_ hHeld
    have cx0 : w4.cell? ⟨g6, 0, none⟩ = some (.int .i64 (rd_T54 bills x).f0) := (blk_cell C6 0).trans rfl
    have cx1 : w4.cell? ⟨g6, 1, none⟩ = some (.int .i64 (rd_T54 bills x).f1) := (blk_cell C6 1).trans rfl
    have cx2 : w4.cell? ⟨g6, 2, none⟩ = some (.int .i64 (rd_T54 bills x).f2) := (blk_cell C6 2).trans rfl
    have cx3 : w4.cell? ⟨g6, 3, none⟩ = some (.int .i64 (rd_T54 bills x).f3) := (blk_cell C6 3).trans rfl
    have cy0 : w4.cell? ⟨g7, 0, none⟩ = some (.int .i64 (rd_T54 bills y).f0) := (blk_cell C7 0).trans rfl
    have cy1 : w4.cell? ⟨g7, 1, none⟩ = some (.int .i64 (rd_T54 bills y).f1) := (blk_cell C7 1).trans rfl
    have cy2 : w4.cell? ⟨g7, 2, none⟩ = some (.int .i64 (rd_T54 bills y).f2) := (blk_cell C7 2).trans rfl
    have cy3 : w4.cell? ⟨g7, 3, none⟩ = some (.int .i64 (rd_T54 bills y).f3) := (blk_cell C7 3).trans rfl
    have HBF := below_drew1 (Below.refl w.heap.size w)
    rw [hw1] at HBF
    have HBZ := Aside0.mk (HBF.trans (HB4.mono HBF.size))
    clear HBF HB4 C6 C7 hw1
    by_cases k1 : (rd_T54 bills x).f0 < (rd_T54 bills y).f0
    · have k1b : decide ((rd_T54 bills x).f0 < (rd_T54 bills y).f0) = true := decide_eq_true k1
      go_wp2
      go_ret
      exact ⟨by rw [k1b]; rfl, HBZ.out⟩
    · have k1b : decide ((rd_T54 bills x).f0 < (rd_T54 bills y).f0) = false := decide_eq_false k1
      by_cases k2 : (rd_T54 bills x).f0 = (rd_T54 bills y).f0
      · have k2b : ((rd_T54 bills x).f0 == (rd_T54 bills y).f0) = true := beq_iff_eq.mpr k2
        have k2c : decide ((rd_T54 bills x).f0 = (rd_T54 bills y).f0) = true := decide_eq_true k2
        clear k1 k2
        go_wp2
        go_ret
        exact ⟨by rw [k1b, k2c]; first | rfl | simp, HBZ.out⟩
      · have k2b : ((rd_T54 bills x).f0 == (rd_T54 bills y).f0) = false := beq_eq_false_iff_ne.mpr k2
        have k2c : decide ((rd_T54 bills x).f0 = (rd_T54 bills y).f0) = false := decide_eq_false k2
        clear k1 k2
        go_wp2
        go_ret
        exact ⟨by rw [k1b, k2c]; first | rfl | simp, HBZ.out⟩
theorem impl_Propose.two_dec (p q : Prop) [Decidable p] [Decidable q] : (if p then some (decide q) else some false) = some (decide (p ∧ q)) := by
  by_cases hp : p
  · rw [if_pos hp]; simp [hp]
  · rw [if_neg hp]; simp [hp]
theorem impl_Propose.btw (a b c : Int) : impl_between.f a b c = some (decide (b ≤ a ∧ a ≤ c)) := by unfold impl_between.f; exact impl_Propose.two_dec (a ≥ b) (a ≤ c)
theorem impl_Propose.day (a : Int) : impl_isDay.f a = some (decide (0 ≤ a ∧ a ≤ 40000)) := by unfold impl_isDay.f; rw [impl_Propose.btw]; rfl
theorem impl_Propose.mny (a : Int) : impl_money.f a = some (decide (0 ≤ a ∧ a ≤ 100000000000)) := by unfold impl_money.f; rw [impl_Propose.btw]; rfl
theorem impl_Propose.rat (a : Int) : impl_rateOk.f a = some (decide (0 ≤ a ∧ a ≤ 100000)) := by unfold impl_rateOk.f; rw [impl_Propose.btw]; rfl
def impl_Propose.args (l0 : List S54) (a1 a2 a3 : Int) : Bool := decide (l0.length ≤ 100) && (decide (0 ≤ a1 ∧ a1 ≤ 40000) && (decide (0 ≤ a2 ∧ a2 ≤ 40000) && (decide (a1 < a2) && decide (0 ≤ a3 ∧ a3 ≤ 100000000000))))
def impl_Propose.good (b : S54) : Bool := decide (0 ≤ b.f0 ∧ b.f0 ≤ 40000) && (decide (0 ≤ b.f1 ∧ b.f1 ≤ 40000) && (decide (0 ≤ b.f2 ∧ b.f2 ≤ 100000) && decide (1 ≤ b.f3 ∧ b.f3 ≤ 100000000000)))
def impl_Propose.isM (a2 : Int) (b : S54) : Bool := decide (b.f0 ≤ a2)
def impl_Propose.isC (a1 a2 : Int) (b : S54) : Bool := decide (a1 ≤ b.f1) && (decide (b.f1 ≤ a2) && decide (0 < b.f2))
/-- The places of those due, of the first n. -/
def impl_Propose.must (l0 : List S54) (a2 : Int) (n : Nat) : List Int := ((List.range n).filter (fun (i : Nat) => impl_Propose.isM a2 (rd_T54 l0 (i : Int)))).map (fun (i : Nat) => (i : Int))
/-- The places of those taken for their rate, of the first n. -/
def impl_Propose.can (l0 : List S54) (a1 a2 : Int) (n : Nat) : List Int := ((List.range n).filter (fun (i : Nat) => !impl_Propose.isM a2 (rd_T54 l0 (i : Int)) && impl_Propose.isC a1 a2 (rd_T54 l0 (i : Int)))).map (fun (i : Nat) => (i : Int))
/-- What is taken, one after the other. -/
def impl_Propose.gr (l0 : List S54) : List Int → Int → List Int → List Int
  | [], _, out => out
  | i :: is, cash, out => if (rd_T54 l0 i).f3 ≤ cash then impl_Propose.gr l0 is (wrap64 (cash - (rd_T54 l0 i).f3)) (out ++ [i]) else impl_Propose.gr l0 is cash out
def impl_Propose.f (k : Nat) (l0 : List S54) (a1 a2 a3 : Int) : Option (List Int) :=
  if impl_Propose.args l0 a1 a2 a3 = true then (if l0.all impl_Propose.good = true then ((impl_sortBy_int.f (impl_Propose.lt1 l0) k (impl_Propose.must l0 a2 l0.length)).bind fun s1 => (impl_sortBy_int.f (impl_Propose.lt2 l0) k (impl_Propose.can l0 a1 a2 l0.length)).bind fun s2 => if ((s1 ++ s2).all (impl_Propose.inb l0) && decide ((s1 ++ s2).length ≤ 1000000)) = true then some (impl_Propose.gr l0 (s1 ++ s2) a3 []) else none) else some []) else some []
theorem impl_Propose.must_succ (l0 : List S54) (a2 : Int) (n : Nat) : impl_Propose.must l0 a2 (n + 1) = if impl_Propose.isM a2 (rd_T54 l0 (n : Int)) = true then impl_Propose.must l0 a2 n ++ [(n : Int)] else impl_Propose.must l0 a2 n := by
  unfold impl_Propose.must
  rw [List.range_succ, List.filter_append, List.map_append]
  by_cases h : impl_Propose.isM a2 (rd_T54 l0 (n : Int)) = true
  · rw [if_pos h, List.filter_cons_of_pos (by simpa using h)]; simp
  · rw [if_neg h, List.filter_cons_of_neg (by simpa using h)]; simp
theorem impl_Propose.can_succ (l0 : List S54) (a1 a2 : Int) (n : Nat) : impl_Propose.can l0 a1 a2 (n + 1) = if (!impl_Propose.isM a2 (rd_T54 l0 (n : Int)) && impl_Propose.isC a1 a2 (rd_T54 l0 (n : Int))) = true then impl_Propose.can l0 a1 a2 n ++ [(n : Int)] else impl_Propose.can l0 a1 a2 n := by
  unfold impl_Propose.can
  rw [List.range_succ, List.filter_append, List.map_append]
  by_cases h : (!impl_Propose.isM a2 (rd_T54 l0 (n : Int)) && impl_Propose.isC a1 a2 (rd_T54 l0 (n : Int))) = true
  · rw [if_pos h, List.filter_cons_of_pos (by simpa using h)]; simp
  · rw [if_neg h, List.filter_cons_of_neg (by simpa using h)]; simp
theorem impl_Propose.must_len (l0 : List S54) (a2 : Int) (n : Nat) : (impl_Propose.must l0 a2 n).length ≤ n := by
  unfold impl_Propose.must
  rw [List.length_map]
  refine Nat.le_trans (List.length_filter_le _ _) ?_
  rw [List.length_range]; exact Nat.le_refl _
theorem impl_Propose.can_len (l0 : List S54) (a1 a2 : Int) (n : Nat) : (impl_Propose.can l0 a1 a2 n).length ≤ n := by
  unfold impl_Propose.can
  rw [List.length_map]
  refine Nat.le_trans (List.length_filter_le _ _) ?_
  rw [List.length_range]; exact Nat.le_refl _
theorem impl_Propose.all_good {l0 : List S54} : l0.all impl_Propose.good = true ↔ ∀ n : Nat, n < l0.length → impl_Propose.good (rd_T54 l0 (n : Int)) = true := by
  have e : ∀ n (h : n < l0.length), rd_T54 l0 (n : Int) = l0[n] := by
    intro n h
    unfold rd_T54
    rw [Int.toNat_natCast, List.getD_eq_getElem?_getD, List.getElem?_eq_getElem h]; rfl
  rw [List.all_eq_true]
  constructor
  · intro h n hn
    rw [e n hn]
    exact h _ (List.getElem_mem hn)
  · intro h x hx
    obtain ⟨n, hn, rfl⟩ := List.mem_iff_getElem.1 hx
    rw [← e n hn]
    exact h n hn
set_option maxHeartbeats 8000000 in
set_option maxRecDepth 100000 in
theorem impl_Propose.calls (k : Nat) (A0 : Option Addr) (c0 : Nat) (l0 : List (S54)) (a1 : Int) (a2 : Int) (a3 : Int) (r : List Int) (w : World) (hr0 : Kd.C k54 w A0 l0.length l0) (hc0 : l0.length ≤ c0) (h : impl_Propose.f k l0 a1 a2 a3 = some r) :
    Calls Try.prog 27 #[.slice A0 l0.length c0, .int .i64 a1, .int .i64 a2, .int .i64 a3] w fun e w' => ∃ v0_ : Value, e = .returned (v0_) ∧ Kd.R (Kd.int .i64) 3 w' w.heap.size (fun _ => True) v0_ r ∧ Below w.heap.size w w' := by
  have hu54 := Try.underlying54
  have HR0 := Aside0.mk hr0
  have HC0 := Aside0.mk hc0
  clear hr0 hc0
  unfold impl_Propose.f at h
  have H' := Aside0.mk h
  clear h
  go_enter Try.func27, Try.ntmps27
  go_upto_region 1 with (first | ((with_reducible refine gate_dst (N := 4) rfl ?_); refine box_event ?hg (N := 4) ?hd (cs := #[.slice A0 l0.length c0]) (t := 55) ?hr ?_; (case hd => rfl); (case hg => rfl); (case hr => first | (go_simp; done) | (go_simp; rfl)); intro gB hg wgB hbox hb; have HB := Aside0.mk (Below.refl wgB.heap.size wgB); have HW := Aside0.mk hb; have BKB := Aside0.mk hbox; clear hb hbox hg))
  have hcB : wgB.cell? ⟨gB, 0, none⟩ = some (.slice A0 l0.length c0) := (blk_cell BKB.out 0).trans rfl
  go_cut [38] (fun v38 wc => v38 = .bool (!impl_Propose.args l0 a1 a2 a3) ∧ Aside0 (Below wgB.heap.size wgB wc))
  case first =>
    clear H'
    by_cases k0 : l0.length ≤ 100
    · have b0 : decide (100 < (l0.length : Int)) = false := decide_eq_false (by omega)
      have b0' : decide (100 < l0.length) = false := decide_eq_false (by omega)
      by_cases k1 : 0 ≤ a1 ∧ a1 ≤ 40000
      · have A1 := Aside0.mk (show impl_isDay.f a1 = some true from by rw [impl_Propose.day, decide_eq_true k1])
        by_cases k2 : 0 ≤ a2 ∧ a2 ≤ 40000
        · have A2 := Aside0.mk (show impl_isDay.f a2 = some true from by rw [impl_Propose.day, decide_eq_true k2])
          by_cases k3 : a1 < a2
          · have b3 : decide (a2 ≤ a1) = false := decide_eq_false (by omega)
            have A4 := Aside0.mk (show impl_money.f a3 = some (decide (0 ≤ a3 ∧ a3 ≤ 100000000000)) from impl_Propose.mny a3)
            have HE : impl_Propose.args l0 a1 a2 a3 = decide (0 ≤ a3 ∧ a3 ≤ 100000000000) := by unfold impl_Propose.args; rw [decide_eq_true k0, decide_eq_true k1, decide_eq_true k2, decide_eq_true k3]; rfl
            clear k0 k1 k2 k3
            go_wp2_with (first | (go_at_call 39; (with_reducible refine (impl_isDay.calls a1 true _ A1.out).mono ?_); rintro e w' ⟨rfl, ⟨nd, rfl⟩⟩; (try first | exact ⟨rfl, _, World.drewN_drewN _ _ _⟩ | exact ⟨rfl, _, Eq.trans (World.drewN_drewN _ _ _) (congrArg (World.drewN _) (Nat.add_assoc _ _ _))⟩)) | (go_at_call 39; (with_reducible refine (impl_isDay.calls a2 true _ A2.out).mono ?_); rintro e w' ⟨rfl, ⟨nd, rfl⟩⟩; (try first | exact ⟨rfl, _, World.drewN_drewN _ _ _⟩ | exact ⟨rfl, _, Eq.trans (World.drewN_drewN _ _ _) (congrArg (World.drewN _) (Nat.add_assoc _ _ _))⟩)) | (go_at_call 57; (with_reducible refine (impl_money.calls a3 (decide (0 ≤ a3 ∧ a3 ≤ 100000000000)) _ A4.out).mono ?_); rintro e w' ⟨rfl, ⟨nd, rfl⟩⟩; (try first | exact ⟨rfl, _, World.drewN_drewN _ _ _⟩ | exact ⟨rfl, _, Eq.trans (World.drewN_drewN _ _ _) (congrArg (World.drewN _) (Nat.add_assoc _ _ _))⟩)))
            repeat (go_quiet (first | (go_at_call 39; (with_reducible refine (impl_isDay.calls a1 true _ A1.out).mono ?_); rintro e w' ⟨rfl, ⟨nd, rfl⟩⟩; (try first | exact ⟨rfl, _, World.drewN_drewN _ _ _⟩ | exact ⟨rfl, _, Eq.trans (World.drewN_drewN _ _ _) (congrArg (World.drewN _) (Nat.add_assoc _ _ _))⟩)) | (go_at_call 39; (with_reducible refine (impl_isDay.calls a2 true _ A2.out).mono ?_); rintro e w' ⟨rfl, ⟨nd, rfl⟩⟩; (try first | exact ⟨rfl, _, World.drewN_drewN _ _ _⟩ | exact ⟨rfl, _, Eq.trans (World.drewN_drewN _ _ _) (congrArg (World.drewN _) (Nat.add_assoc _ _ _))⟩)) | (go_at_call 57; (with_reducible refine (impl_money.calls a3 (decide (0 ≤ a3 ∧ a3 ≤ 100000000000)) _ A4.out).mono ?_); rintro e w' ⟨rfl, ⟨nd, rfl⟩⟩; (try first | exact ⟨rfl, _, World.drewN_drewN _ _ _⟩ | exact ⟨rfl, _, Eq.trans (World.drewN_drewN _ _ _) (congrArg (World.drewN _) (Nat.add_assoc _ _ _))⟩))); try go_wp2_with (first | (go_at_call 39; (with_reducible refine (impl_isDay.calls a1 true _ A1.out).mono ?_); rintro e w' ⟨rfl, ⟨nd, rfl⟩⟩; (try first | exact ⟨rfl, _, World.drewN_drewN _ _ _⟩ | exact ⟨rfl, _, Eq.trans (World.drewN_drewN _ _ _) (congrArg (World.drewN _) (Nat.add_assoc _ _ _))⟩)) | (go_at_call 39; (with_reducible refine (impl_isDay.calls a2 true _ A2.out).mono ?_); rintro e w' ⟨rfl, ⟨nd, rfl⟩⟩; (try first | exact ⟨rfl, _, World.drewN_drewN _ _ _⟩ | exact ⟨rfl, _, Eq.trans (World.drewN_drewN _ _ _) (congrArg (World.drewN _) (Nat.add_assoc _ _ _))⟩)) | (go_at_call 57; (with_reducible refine (impl_money.calls a3 (decide (0 ≤ a3 ∧ a3 ≤ 100000000000)) _ A4.out).mono ?_); rintro e w' ⟨rfl, ⟨nd, rfl⟩⟩; (try first | exact ⟨rfl, _, World.drewN_drewN _ _ _⟩ | exact ⟨rfl, _, Eq.trans (World.drewN_drewN _ _ _) (congrArg (World.drewN _) (Nat.add_assoc _ _ _))⟩))))
            go_meet
            case rel => exact ⟨by rw [HE]; first | rfl | simp, ⟨by repeat (first | (with_reducible first | exact HB.out | apply below_alloc | apply pw_below_drewN | apply below_drew1) | exact HB.out)⟩⟩
          · have b3 : decide (a2 ≤ a1) = true := decide_eq_true (by omega)
            have HE : impl_Propose.args l0 a1 a2 a3 = false := by unfold impl_Propose.args; rw [decide_eq_false k3]; simp
            clear k0 k1 k2 k3
            go_wp2_with (first | (go_at_call 39; (with_reducible refine (impl_isDay.calls a1 true _ A1.out).mono ?_); rintro e w' ⟨rfl, ⟨nd, rfl⟩⟩; (try first | exact ⟨rfl, _, World.drewN_drewN _ _ _⟩ | exact ⟨rfl, _, Eq.trans (World.drewN_drewN _ _ _) (congrArg (World.drewN _) (Nat.add_assoc _ _ _))⟩)) | (go_at_call 39; (with_reducible refine (impl_isDay.calls a2 true _ A2.out).mono ?_); rintro e w' ⟨rfl, ⟨nd, rfl⟩⟩; (try first | exact ⟨rfl, _, World.drewN_drewN _ _ _⟩ | exact ⟨rfl, _, Eq.trans (World.drewN_drewN _ _ _) (congrArg (World.drewN _) (Nat.add_assoc _ _ _))⟩)))
            repeat (go_quiet (first | (go_at_call 39; (with_reducible refine (impl_isDay.calls a1 true _ A1.out).mono ?_); rintro e w' ⟨rfl, ⟨nd, rfl⟩⟩; (try first | exact ⟨rfl, _, World.drewN_drewN _ _ _⟩ | exact ⟨rfl, _, Eq.trans (World.drewN_drewN _ _ _) (congrArg (World.drewN _) (Nat.add_assoc _ _ _))⟩)) | (go_at_call 39; (with_reducible refine (impl_isDay.calls a2 true _ A2.out).mono ?_); rintro e w' ⟨rfl, ⟨nd, rfl⟩⟩; (try first | exact ⟨rfl, _, World.drewN_drewN _ _ _⟩ | exact ⟨rfl, _, Eq.trans (World.drewN_drewN _ _ _) (congrArg (World.drewN _) (Nat.add_assoc _ _ _))⟩))); try go_wp2_with (first | (go_at_call 39; (with_reducible refine (impl_isDay.calls a1 true _ A1.out).mono ?_); rintro e w' ⟨rfl, ⟨nd, rfl⟩⟩; (try first | exact ⟨rfl, _, World.drewN_drewN _ _ _⟩ | exact ⟨rfl, _, Eq.trans (World.drewN_drewN _ _ _) (congrArg (World.drewN _) (Nat.add_assoc _ _ _))⟩)) | (go_at_call 39; (with_reducible refine (impl_isDay.calls a2 true _ A2.out).mono ?_); rintro e w' ⟨rfl, ⟨nd, rfl⟩⟩; (try first | exact ⟨rfl, _, World.drewN_drewN _ _ _⟩ | exact ⟨rfl, _, Eq.trans (World.drewN_drewN _ _ _) (congrArg (World.drewN _) (Nat.add_assoc _ _ _))⟩))))
            go_meet
            case rel => exact ⟨by rw [HE]; first | rfl | simp, ⟨by repeat (first | (with_reducible first | exact HB.out | apply below_alloc | apply pw_below_drewN | apply below_drew1) | exact HB.out)⟩⟩
        · have A2 := Aside0.mk (show impl_isDay.f a2 = some false from by rw [impl_Propose.day, decide_eq_false k2])
          have HE : impl_Propose.args l0 a1 a2 a3 = false := by unfold impl_Propose.args; rw [decide_eq_false k2]; simp
          clear k0 k1 k2
          go_wp2_with (first | (go_at_call 39; (with_reducible refine (impl_isDay.calls a1 true _ A1.out).mono ?_); rintro e w' ⟨rfl, ⟨nd, rfl⟩⟩; (try first | exact ⟨rfl, _, World.drewN_drewN _ _ _⟩ | exact ⟨rfl, _, Eq.trans (World.drewN_drewN _ _ _) (congrArg (World.drewN _) (Nat.add_assoc _ _ _))⟩)) | (go_at_call 39; (with_reducible refine (impl_isDay.calls a2 false _ A2.out).mono ?_); rintro e w' ⟨rfl, ⟨nd, rfl⟩⟩; (try first | exact ⟨rfl, _, World.drewN_drewN _ _ _⟩ | exact ⟨rfl, _, Eq.trans (World.drewN_drewN _ _ _) (congrArg (World.drewN _) (Nat.add_assoc _ _ _))⟩)))
          repeat (go_quiet (first | (go_at_call 39; (with_reducible refine (impl_isDay.calls a1 true _ A1.out).mono ?_); rintro e w' ⟨rfl, ⟨nd, rfl⟩⟩; (try first | exact ⟨rfl, _, World.drewN_drewN _ _ _⟩ | exact ⟨rfl, _, Eq.trans (World.drewN_drewN _ _ _) (congrArg (World.drewN _) (Nat.add_assoc _ _ _))⟩)) | (go_at_call 39; (with_reducible refine (impl_isDay.calls a2 false _ A2.out).mono ?_); rintro e w' ⟨rfl, ⟨nd, rfl⟩⟩; (try first | exact ⟨rfl, _, World.drewN_drewN _ _ _⟩ | exact ⟨rfl, _, Eq.trans (World.drewN_drewN _ _ _) (congrArg (World.drewN _) (Nat.add_assoc _ _ _))⟩))); try go_wp2_with (first | (go_at_call 39; (with_reducible refine (impl_isDay.calls a1 true _ A1.out).mono ?_); rintro e w' ⟨rfl, ⟨nd, rfl⟩⟩; (try first | exact ⟨rfl, _, World.drewN_drewN _ _ _⟩ | exact ⟨rfl, _, Eq.trans (World.drewN_drewN _ _ _) (congrArg (World.drewN _) (Nat.add_assoc _ _ _))⟩)) | (go_at_call 39; (with_reducible refine (impl_isDay.calls a2 false _ A2.out).mono ?_); rintro e w' ⟨rfl, ⟨nd, rfl⟩⟩; (try first | exact ⟨rfl, _, World.drewN_drewN _ _ _⟩ | exact ⟨rfl, _, Eq.trans (World.drewN_drewN _ _ _) (congrArg (World.drewN _) (Nat.add_assoc _ _ _))⟩))))
          go_meet
          case rel => exact ⟨by rw [HE]; first | rfl | simp, ⟨by repeat (first | (with_reducible first | exact HB.out | apply below_alloc | apply pw_below_drewN | apply below_drew1) | exact HB.out)⟩⟩
      · have A1 := Aside0.mk (show impl_isDay.f a1 = some false from by rw [impl_Propose.day, decide_eq_false k1])
        have HE : impl_Propose.args l0 a1 a2 a3 = false := by unfold impl_Propose.args; rw [decide_eq_false k1]; simp
        clear k0 k1
        go_wp2_with (first | (go_at_call 39; (with_reducible refine (impl_isDay.calls a1 false _ A1.out).mono ?_); rintro e w' ⟨rfl, ⟨nd, rfl⟩⟩; (try first | exact ⟨rfl, _, World.drewN_drewN _ _ _⟩ | exact ⟨rfl, _, Eq.trans (World.drewN_drewN _ _ _) (congrArg (World.drewN _) (Nat.add_assoc _ _ _))⟩)))
        repeat (go_quiet (first | (go_at_call 39; (with_reducible refine (impl_isDay.calls a1 false _ A1.out).mono ?_); rintro e w' ⟨rfl, ⟨nd, rfl⟩⟩; (try first | exact ⟨rfl, _, World.drewN_drewN _ _ _⟩ | exact ⟨rfl, _, Eq.trans (World.drewN_drewN _ _ _) (congrArg (World.drewN _) (Nat.add_assoc _ _ _))⟩))); try go_wp2_with (first | (go_at_call 39; (with_reducible refine (impl_isDay.calls a1 false _ A1.out).mono ?_); rintro e w' ⟨rfl, ⟨nd, rfl⟩⟩; (try first | exact ⟨rfl, _, World.drewN_drewN _ _ _⟩ | exact ⟨rfl, _, Eq.trans (World.drewN_drewN _ _ _) (congrArg (World.drewN _) (Nat.add_assoc _ _ _))⟩))))
        go_meet
        case rel => exact ⟨by rw [HE]; first | rfl | simp, ⟨by repeat (first | (with_reducible first | exact HB.out | apply below_alloc | apply pw_below_drewN | apply below_drew1) | exact HB.out)⟩⟩
    · have b0 : decide (100 < (l0.length : Int)) = true := decide_eq_true (by omega)
      have b0' : decide (100 < l0.length) = true := decide_eq_true (by omega)
      have HE : impl_Propose.args l0 a1 a2 a3 = false := by unfold impl_Propose.args; rw [decide_eq_false k0]; rfl
      clear k0
      go_wp2_with (fail)
      repeat (go_quiet (fail); try go_wp2_with (fail))
      go_meet
      case rel => exact ⟨by rw [HE]; first | rfl | simp, ⟨by repeat (first | (with_reducible first | exact HB.out | apply below_alloc | apply pw_below_drewN | apply below_drew1) | exact HB.out)⟩⟩
  case rest =>
    obtain ⟨rfl, HB⟩ := hcut
    clear hcB
    have H := H'.out
    clear H'
    cases hargs : impl_Propose.args l0 a1 a2 a3 with
    | false =>
      rw [hargs, if_neg (by decide)] at H
      obtain rfl := Option.some.inj H
      clear H
      have HW2 := Aside0.mk (HW.out.trans (HB.out.mono HW.out.size))
      go_wp2
      go_ret
      exact ⟨_, rfl, Kd.R_nil _ _ _ _ _, HW2.out⟩
    | true =>
      rw [hargs, if_pos rfl] at H
      have HL100 := Aside0.mk (show l0.length ≤ 100 by
        unfold impl_Propose.args at hargs
        simp only [Bool.and_eq_true, decide_eq_true_eq] at hargs
        exact hargs.1)
      clear hargs
      have H' := Aside0.mk H
      clear H
      go_upto_region 4 with (first | ((with_reducible refine gate_dst (N := 39) rfl ?_); refine Kd.R_lit (Kd.int .i64) _ 3 ?hg (N := 39) ?hd (xs := ([] : List Int)) (inner := []) (ok := fun _ => True) (okp := fun _ => True) ?hr ?hp (fun _ hk => hk) trivial (Below.refl _ _) (Nat.le_refl _) (by simp) ?_; (case hd => rfl); (case hg => rfl); (case hr => first | (go_simp; done) | (go_simp; rfl)); (case hp => exact (Reps.none _ _)); intro v39 w39 ho5 hb hg_ hnew_; clear hg_ hnew_; have n0_ := Aside0.mk (Kd.R_lower ho5 (below_size (by repeat (first | (with_reducible first | exact HB.out | apply below_alloc | apply pw_below_drewN | apply below_drew1) | exact HB.out)))); have n1_ := Aside0.mk (below_step (by repeat (first | (with_reducible first | exact HB.out | apply below_alloc | apply pw_below_drewN | apply below_drew1) | exact HB.out)) hb); clear HB; have HM := n0_; have HB := n1_; clear n0_ n1_; clear hb ho5) | ((with_reducible refine gate_dst (N := 40) rfl ?_); refine Kd.R_lit (Kd.int .i64) _ 3 ?hg (N := 40) ?hd (xs := ([] : List Int)) (inner := []) (ok := fun _ => True) (okp := fun _ => True) ?hr ?hp (fun _ hk => hk) trivial (Below.refl _ _) (Nat.le_refl _) (by simp) ?_; (case hd => rfl); (case hg => rfl); (case hr => first | (go_simp; done) | (go_simp; rfl)); (case hp => exact (Reps.none _ _)); intro v40 w40 ho5 hb hg_ hnew_; clear hg_ hnew_; have n0_ := Aside0.mk (Kd.R_elder' HM.out (Kd.R_base ho5) hb); have n1_ := Aside0.mk (Kd.R_lower (Kd.R_new' ho5 (Kd.R_lt HM.out)) (below_size (by repeat (first | (with_reducible first | exact HB.out | apply below_alloc | apply pw_below_drewN | apply below_drew1) | exact HB.out)))); have n2_ := Aside0.mk (below_step (by repeat (first | (with_reducible first | exact HB.out | apply below_alloc | apply pw_below_drewN | apply below_drew1) | exact HB.out)) hb); clear HM HB; have HM := n0_; have HC := n1_; have HB := n2_; clear n0_ n1_ n2_; clear hb ho5))
      have hcB2 : w40.cell? ⟨gB, 0, none⟩ = some (.slice A0 l0.length c0) := (blk_cell (blk_below BKB.out HB.out) 0).trans rfl
      go_wp2
      clear hcB2
      go_loopg [9, 10, 43] l0.length (fun kq v9 v10 v43 w' => ∃ (x : Nat), v43 = .int .i64 (x : Int) ∧ Aside0 (x + kq = l0.length) ∧ Aside0 (∀ n : Nat, n < x → impl_Propose.good (rd_T54 l0 (n : Int)) = true) ∧ Aside0 (Kd.R (Kd.int .i64) 3 w' wgB.heap.size (fun k_ => some k_ ≠ (v10 : Value).ownBlock) v9 (impl_Propose.must l0 a2 x)) ∧ Aside0 (Kd.R (Kd.int .i64) 3 w' wgB.heap.size (fun k_ => some k_ ≠ (v9 : Value).ownBlock) v10 (impl_Propose.can l0 a1 a2 x)) ∧ Aside0 (Below wgB.heap.size wgB w'))
      case atStart => exact ⟨0, rfl, ⟨by omega⟩, ⟨fun n hn => by omega⟩, ⟨Kd.R_mono HM.out (fun _ hk => hk.2)⟩, ⟨Kd.R_mono HC.out (fun _ hk => hk.2)⟩, HB⟩
      case round =>
        clear HM HC HB
        obtain ⟨x, rfl, HX, HG, HM, HC, HB⟩ := hrel
        by_cases hx : x < l0.length
        · obtain ⟨k1, rfl⟩ : ∃ k1, gk = k1 + 1 := ⟨gk - 1, by have := HX.out; omega⟩
          have hx1 : decide ((x : Int) < (l0.length : Int)) = true := decide_eq_true (by omega)
          have p1 : 0 ≤ (x : Int) := by omega
          have q1 : (x : Int) < (l0.length : Int) := by omega
          have HXL := Aside0.mk hx
          clear hx
          obtain ⟨ad1, e1, hx0, hx1', hx2, hx3⟩ := at_T54 HR0.out (x : Int) p1 q1
          cases e1
          simp only [Int.toNat_natCast] at hx0 hx1' hx2 hx3
          have HBW := Aside0.mk (HW.out.trans (HB.out.mono HW.out.size))
          replace hx0 := (HBW.out.cell (World.block_lt_of_cell? w _ hx0)).trans hx0
          replace hx1' := (HBW.out.cell (World.block_lt_of_cell? w _ hx1')).trans hx1'
          replace hx2 := (HBW.out.cell (World.block_lt_of_cell? w _ hx2)).trans hx2
          replace hx3 := (HBW.out.cell (World.block_lt_of_cell? w _ hx3)).trans hx3
          replace p1 := eq_true p1
          replace q1 := eq_true q1
          have HBr := Aside0.mk (Below.refl wr.heap.size wr)
          have HB0 := Aside0.mk (below_size HB.out)
          go_upto_region 7 with (first | ((with_reducible refine gate_dst (N := 12) rfl ?_); refine box_event ?hg (N := 12) ?hd (cs := #[.int .i64 0, .int .i64 0, .int .i64 0, .int .i64 0]) (t := 54) ?hr ?_; (case hd => rfl); (case hg => rfl); (case hr => first | (go_simp; done) | (go_simp; rfl)); intro gb12 hg wgb12 hbox hb; have n0_ := Aside0.mk (below_step (by repeat (first | (with_reducible first | exact HB.out | apply below_alloc | apply pw_below_drewN | apply below_drew1) | exact HB.out)) hb); have n1_ := Aside0.mk (below_step (by repeat (first | (with_reducible first | exact HBr.out | apply below_alloc | apply pw_below_drewN | apply below_drew1) | exact HBr.out)) hb); have BK12 := Aside0.mk hbox; have GE12 := Aside0.mk (show wr.heap.size ≤ gb12 from by rw [hg]; exact Nat.le_refl _); clear HB HBr; have HB := n0_; have HBr := n1_; clear n0_ n1_ hb hbox hg; have hcz_0 : wgb12.cell? ⟨gb12, 0, none⟩ = some (.int .i64 0) := (blk_cell BK12.out 0).trans rfl; have hcz_1 : wgb12.cell? ⟨gb12, 1, none⟩ = some (.int .i64 0) := (blk_cell BK12.out 1).trans rfl; have hcz_2 : wgb12.cell? ⟨gb12, 2, none⟩ = some (.int .i64 0) := (blk_cell BK12.out 2).trans rfl; have hcz_3 : wgb12.cell? ⟨gb12, 3, none⟩ = some (.int .i64 0) := (blk_cell BK12.out 3).trans rfl; have hfz_0 := blk_frozen BK12.out 0; have hfz_1 := blk_frozen BK12.out 1; have hfz_2 := blk_frozen BK12.out 2; have hfz_3 := blk_frozen BK12.out 3))
          have BKr : ((((wgb12.setCell ⟨gb12, 0, none⟩ (.int .i64 (rd_T54 l0 (x : Int)).f0)).setCell ⟨gb12, 1, none⟩ (.int .i64 (rd_T54 l0 (x : Int)).f1)).setCell ⟨gb12, 2, none⟩ (.int .i64 (rd_T54 l0 (x : Int)).f2)).setCell ⟨gb12, 3, none⟩ (.int .i64 (rd_T54 l0 (x : Int)).f3)).heap[gb12]? = some (.cells #[.int .i64 (rd_T54 l0 (x : Int)).f0, .int .i64 (rd_T54 l0 (x : Int)).f1, .int .i64 (rd_T54 l0 (x : Int)).f2, .int .i64 (rd_T54 l0 (x : Int)).f3] 54 (0, 0)) := by
            refine blk_put (cs := #[.int .i64 (rd_T54 l0 (x : Int)).f0, .int .i64 (rd_T54 l0 (x : Int)).f1, .int .i64 (rd_T54 l0 (x : Int)).f2, .int .i64 0]) ?_ 3 _ rfl
            refine blk_put (cs := #[.int .i64 (rd_T54 l0 (x : Int)).f0, .int .i64 (rd_T54 l0 (x : Int)).f1, .int .i64 0, .int .i64 0]) ?_ 2 _ rfl
            refine blk_put (cs := #[.int .i64 (rd_T54 l0 (x : Int)).f0, .int .i64 0, .int .i64 0, .int .i64 0]) ?_ 1 _ rfl
            refine blk_put (cs := #[.int .i64 0, .int .i64 0, .int .i64 0, .int .i64 0]) ?_ 0 _ rfl
            exact BK12.out
          have GE7 : wgB.heap.size ≤ gb12 := Nat.le_trans HB0.out GE12.out
          have n0_ := Aside0.mk (below_set (below_set (below_set (below_set HB.out GE7 (j := 0) (v := .int .i64 (rd_T54 l0 (x : Int)).f0)) GE7 (j := 1) (v := .int .i64 (rd_T54 l0 (x : Int)).f1)) GE7 (j := 2) (v := .int .i64 (rd_T54 l0 (x : Int)).f2)) GE7 (j := 3) (v := .int .i64 (rd_T54 l0 (x : Int)).f3))
          have n1_ := Aside0.mk (below_set (below_set (below_set (below_set HBr.out GE12.out (j := 0) (v := .int .i64 (rd_T54 l0 (x : Int)).f0)) GE12.out (j := 1) (v := .int .i64 (rd_T54 l0 (x : Int)).f1)) GE12.out (j := 2) (v := .int .i64 (rd_T54 l0 (x : Int)).f2)) GE12.out (j := 3) (v := .int .i64 (rd_T54 l0 (x : Int)).f3))
          have BKr' := Aside0.mk BKr
          clear BKr HB HBr BK12 hcz_0 hcz_1 hcz_2 hcz_3 hfz_0 hfz_1 hfz_2 hfz_3 hx0 hx1' hx2 hx3 p1 q1 hx1
          have HB := n0_
          have HBr := n1_
          clear n0_ n1_
          generalize ((((wgb12.setCell ⟨gb12, 0, none⟩ (.int .i64 (rd_T54 l0 (x : Int)).f0)).setCell ⟨gb12, 1, none⟩ (.int .i64 (rd_T54 l0 (x : Int)).f1)).setCell ⟨gb12, 2, none⟩ (.int .i64 (rd_T54 l0 (x : Int)).f2)).setCell ⟨gb12, 3, none⟩ (.int .i64 (rd_T54 l0 (x : Int)).f3)) = wS at HB HBr BKr' ⊢
          have n0_ := Aside0.mk (Kd.R_below HM.out HBr.out)
          have n1_ := Aside0.mk (Kd.R_below HC.out HBr.out)
          clear HM HC HBr HBW
          have HM := n0_
          have HC := n1_
          clear n0_ n1_
          have hc0 : wS.cell? ⟨gb12, 0, none⟩ = some (.int .i64 (rd_T54 l0 (x : Int)).f0) := (blk_cell BKr'.out 0).trans rfl
          have hc1 : wS.cell? ⟨gb12, 1, none⟩ = some (.int .i64 (rd_T54 l0 (x : Int)).f1) := (blk_cell BKr'.out 1).trans rfl
          have hc2 : wS.cell? ⟨gb12, 2, none⟩ = some (.int .i64 (rd_T54 l0 (x : Int)).f2) := (blk_cell BKr'.out 2).trans rfl
          have hc3 : wS.cell? ⟨gb12, 3, none⟩ = some (.int .i64 (rd_T54 l0 (x : Int)).f3) := (blk_cell BKr'.out 3).trans rfl
          have HBc := Aside0.mk (Below.refl wS.heap.size wS)
          go_cut [69] (fun v69 wc => v69 = .bool (!impl_Propose.good (rd_T54 l0 (x : Int))) ∧ Aside0 (Below wS.heap.size wS wc))
          case first =>
            clear H'
            by_cases k1 : 0 ≤ (rd_T54 l0 (x : Int)).f0 ∧ (rd_T54 l0 (x : Int)).f0 ≤ 40000
            · have A1 := Aside0.mk (show impl_isDay.f (rd_T54 l0 (x : Int)).f0 = some true from by rw [impl_Propose.day, decide_eq_true k1])
              by_cases k2 : 0 ≤ (rd_T54 l0 (x : Int)).f1 ∧ (rd_T54 l0 (x : Int)).f1 ≤ 40000
              · have A2 := Aside0.mk (show impl_isDay.f (rd_T54 l0 (x : Int)).f1 = some true from by rw [impl_Propose.day, decide_eq_true k2])
                by_cases k3 : 0 ≤ (rd_T54 l0 (x : Int)).f2 ∧ (rd_T54 l0 (x : Int)).f2 ≤ 100000
                · have A3 := Aside0.mk (show impl_rateOk.f (rd_T54 l0 (x : Int)).f2 = some true from by rw [impl_Propose.rat, decide_eq_true k3])
                  have A4 := Aside0.mk (impl_Propose.btw (rd_T54 l0 (x : Int)).f3 1 100000000000)
                  have HE : impl_Propose.good (rd_T54 l0 (x : Int)) = decide (1 ≤ (rd_T54 l0 (x : Int)).f3 ∧ (rd_T54 l0 (x : Int)).f3 ≤ 100000000000) := by unfold impl_Propose.good; rw [decide_eq_true k1, decide_eq_true k2, decide_eq_true k3]; rfl
                  clear k1 k2 k3
                  go_wp2_with (first | (go_at_call 39; (with_reducible refine (impl_isDay.calls (rd_T54 l0 (x : Int)).f0 true _ A1.out).mono ?_); rintro e w' ⟨rfl, ⟨nd, rfl⟩⟩; (try first | exact ⟨rfl, _, World.drewN_drewN _ _ _⟩ | exact ⟨rfl, _, Eq.trans (World.drewN_drewN _ _ _) (congrArg (World.drewN _) (Nat.add_assoc _ _ _))⟩)) | (go_at_call 39; (with_reducible refine (impl_isDay.calls (rd_T54 l0 (x : Int)).f1 true _ A2.out).mono ?_); rintro e w' ⟨rfl, ⟨nd, rfl⟩⟩; (try first | exact ⟨rfl, _, World.drewN_drewN _ _ _⟩ | exact ⟨rfl, _, Eq.trans (World.drewN_drewN _ _ _) (congrArg (World.drewN _) (Nat.add_assoc _ _ _))⟩)) | (go_at_call 58; (with_reducible refine (impl_rateOk.calls (rd_T54 l0 (x : Int)).f2 true _ A3.out).mono ?_); rintro e w' ⟨rfl, ⟨nd, rfl⟩⟩; (try first | exact ⟨rfl, _, World.drewN_drewN _ _ _⟩ | exact ⟨rfl, _, Eq.trans (World.drewN_drewN _ _ _) (congrArg (World.drewN _) (Nat.add_assoc _ _ _))⟩)) | (go_at_call 37; (with_reducible refine (impl_between.calls (rd_T54 l0 (x : Int)).f3 1 100000000000 (decide (1 ≤ (rd_T54 l0 (x : Int)).f3 ∧ (rd_T54 l0 (x : Int)).f3 ≤ 100000000000)) _ A4.out).mono ?_); rintro e w' ⟨rfl, ⟨nd, rfl⟩⟩; (try first | exact ⟨rfl, _, World.drewN_drewN _ _ _⟩ | exact ⟨rfl, _, Eq.trans (World.drewN_drewN _ _ _) (congrArg (World.drewN _) (Nat.add_assoc _ _ _))⟩)))
                  repeat (go_quiet (first | (go_at_call 39; (with_reducible refine (impl_isDay.calls (rd_T54 l0 (x : Int)).f0 true _ A1.out).mono ?_); rintro e w' ⟨rfl, ⟨nd, rfl⟩⟩; (try first | exact ⟨rfl, _, World.drewN_drewN _ _ _⟩ | exact ⟨rfl, _, Eq.trans (World.drewN_drewN _ _ _) (congrArg (World.drewN _) (Nat.add_assoc _ _ _))⟩)) | (go_at_call 39; (with_reducible refine (impl_isDay.calls (rd_T54 l0 (x : Int)).f1 true _ A2.out).mono ?_); rintro e w' ⟨rfl, ⟨nd, rfl⟩⟩; (try first | exact ⟨rfl, _, World.drewN_drewN _ _ _⟩ | exact ⟨rfl, _, Eq.trans (World.drewN_drewN _ _ _) (congrArg (World.drewN _) (Nat.add_assoc _ _ _))⟩)) | (go_at_call 58; (with_reducible refine (impl_rateOk.calls (rd_T54 l0 (x : Int)).f2 true _ A3.out).mono ?_); rintro e w' ⟨rfl, ⟨nd, rfl⟩⟩; (try first | exact ⟨rfl, _, World.drewN_drewN _ _ _⟩ | exact ⟨rfl, _, Eq.trans (World.drewN_drewN _ _ _) (congrArg (World.drewN _) (Nat.add_assoc _ _ _))⟩)) | (go_at_call 37; (with_reducible refine (impl_between.calls (rd_T54 l0 (x : Int)).f3 1 100000000000 (decide (1 ≤ (rd_T54 l0 (x : Int)).f3 ∧ (rd_T54 l0 (x : Int)).f3 ≤ 100000000000)) _ A4.out).mono ?_); rintro e w' ⟨rfl, ⟨nd, rfl⟩⟩; (try first | exact ⟨rfl, _, World.drewN_drewN _ _ _⟩ | exact ⟨rfl, _, Eq.trans (World.drewN_drewN _ _ _) (congrArg (World.drewN _) (Nat.add_assoc _ _ _))⟩))); try go_wp2_with (first | (go_at_call 39; (with_reducible refine (impl_isDay.calls (rd_T54 l0 (x : Int)).f0 true _ A1.out).mono ?_); rintro e w' ⟨rfl, ⟨nd, rfl⟩⟩; (try first | exact ⟨rfl, _, World.drewN_drewN _ _ _⟩ | exact ⟨rfl, _, Eq.trans (World.drewN_drewN _ _ _) (congrArg (World.drewN _) (Nat.add_assoc _ _ _))⟩)) | (go_at_call 39; (with_reducible refine (impl_isDay.calls (rd_T54 l0 (x : Int)).f1 true _ A2.out).mono ?_); rintro e w' ⟨rfl, ⟨nd, rfl⟩⟩; (try first | exact ⟨rfl, _, World.drewN_drewN _ _ _⟩ | exact ⟨rfl, _, Eq.trans (World.drewN_drewN _ _ _) (congrArg (World.drewN _) (Nat.add_assoc _ _ _))⟩)) | (go_at_call 58; (with_reducible refine (impl_rateOk.calls (rd_T54 l0 (x : Int)).f2 true _ A3.out).mono ?_); rintro e w' ⟨rfl, ⟨nd, rfl⟩⟩; (try first | exact ⟨rfl, _, World.drewN_drewN _ _ _⟩ | exact ⟨rfl, _, Eq.trans (World.drewN_drewN _ _ _) (congrArg (World.drewN _) (Nat.add_assoc _ _ _))⟩)) | (go_at_call 37; (with_reducible refine (impl_between.calls (rd_T54 l0 (x : Int)).f3 1 100000000000 (decide (1 ≤ (rd_T54 l0 (x : Int)).f3 ∧ (rd_T54 l0 (x : Int)).f3 ≤ 100000000000)) _ A4.out).mono ?_); rintro e w' ⟨rfl, ⟨nd, rfl⟩⟩; (try first | exact ⟨rfl, _, World.drewN_drewN _ _ _⟩ | exact ⟨rfl, _, Eq.trans (World.drewN_drewN _ _ _) (congrArg (World.drewN _) (Nat.add_assoc _ _ _))⟩))))
                  go_meet
                  case rel => exact ⟨by rw [HE]; first | rfl | simp, ⟨by repeat (first | (with_reducible first | exact HBc.out | apply below_alloc | apply pw_below_drewN | apply below_drew1) | exact HBc.out)⟩⟩
                · have A3 := Aside0.mk (show impl_rateOk.f (rd_T54 l0 (x : Int)).f2 = some false from by rw [impl_Propose.rat, decide_eq_false k3])
                  have HE : impl_Propose.good (rd_T54 l0 (x : Int)) = false := by unfold impl_Propose.good; rw [decide_eq_false k3]; simp
                  clear k1 k2 k3
                  go_wp2_with (first | (go_at_call 39; (with_reducible refine (impl_isDay.calls (rd_T54 l0 (x : Int)).f0 true _ A1.out).mono ?_); rintro e w' ⟨rfl, ⟨nd, rfl⟩⟩; (try first | exact ⟨rfl, _, World.drewN_drewN _ _ _⟩ | exact ⟨rfl, _, Eq.trans (World.drewN_drewN _ _ _) (congrArg (World.drewN _) (Nat.add_assoc _ _ _))⟩)) | (go_at_call 39; (with_reducible refine (impl_isDay.calls (rd_T54 l0 (x : Int)).f1 true _ A2.out).mono ?_); rintro e w' ⟨rfl, ⟨nd, rfl⟩⟩; (try first | exact ⟨rfl, _, World.drewN_drewN _ _ _⟩ | exact ⟨rfl, _, Eq.trans (World.drewN_drewN _ _ _) (congrArg (World.drewN _) (Nat.add_assoc _ _ _))⟩)) | (go_at_call 58; (with_reducible refine (impl_rateOk.calls (rd_T54 l0 (x : Int)).f2 false _ A3.out).mono ?_); rintro e w' ⟨rfl, ⟨nd, rfl⟩⟩; (try first | exact ⟨rfl, _, World.drewN_drewN _ _ _⟩ | exact ⟨rfl, _, Eq.trans (World.drewN_drewN _ _ _) (congrArg (World.drewN _) (Nat.add_assoc _ _ _))⟩)))
                  repeat (go_quiet (first | (go_at_call 39; (with_reducible refine (impl_isDay.calls (rd_T54 l0 (x : Int)).f0 true _ A1.out).mono ?_); rintro e w' ⟨rfl, ⟨nd, rfl⟩⟩; (try first | exact ⟨rfl, _, World.drewN_drewN _ _ _⟩ | exact ⟨rfl, _, Eq.trans (World.drewN_drewN _ _ _) (congrArg (World.drewN _) (Nat.add_assoc _ _ _))⟩)) | (go_at_call 39; (with_reducible refine (impl_isDay.calls (rd_T54 l0 (x : Int)).f1 true _ A2.out).mono ?_); rintro e w' ⟨rfl, ⟨nd, rfl⟩⟩; (try first | exact ⟨rfl, _, World.drewN_drewN _ _ _⟩ | exact ⟨rfl, _, Eq.trans (World.drewN_drewN _ _ _) (congrArg (World.drewN _) (Nat.add_assoc _ _ _))⟩)) | (go_at_call 58; (with_reducible refine (impl_rateOk.calls (rd_T54 l0 (x : Int)).f2 false _ A3.out).mono ?_); rintro e w' ⟨rfl, ⟨nd, rfl⟩⟩; (try first | exact ⟨rfl, _, World.drewN_drewN _ _ _⟩ | exact ⟨rfl, _, Eq.trans (World.drewN_drewN _ _ _) (congrArg (World.drewN _) (Nat.add_assoc _ _ _))⟩))); try go_wp2_with (first | (go_at_call 39; (with_reducible refine (impl_isDay.calls (rd_T54 l0 (x : Int)).f0 true _ A1.out).mono ?_); rintro e w' ⟨rfl, ⟨nd, rfl⟩⟩; (try first | exact ⟨rfl, _, World.drewN_drewN _ _ _⟩ | exact ⟨rfl, _, Eq.trans (World.drewN_drewN _ _ _) (congrArg (World.drewN _) (Nat.add_assoc _ _ _))⟩)) | (go_at_call 39; (with_reducible refine (impl_isDay.calls (rd_T54 l0 (x : Int)).f1 true _ A2.out).mono ?_); rintro e w' ⟨rfl, ⟨nd, rfl⟩⟩; (try first | exact ⟨rfl, _, World.drewN_drewN _ _ _⟩ | exact ⟨rfl, _, Eq.trans (World.drewN_drewN _ _ _) (congrArg (World.drewN _) (Nat.add_assoc _ _ _))⟩)) | (go_at_call 58; (with_reducible refine (impl_rateOk.calls (rd_T54 l0 (x : Int)).f2 false _ A3.out).mono ?_); rintro e w' ⟨rfl, ⟨nd, rfl⟩⟩; (try first | exact ⟨rfl, _, World.drewN_drewN _ _ _⟩ | exact ⟨rfl, _, Eq.trans (World.drewN_drewN _ _ _) (congrArg (World.drewN _) (Nat.add_assoc _ _ _))⟩))))
                  go_meet
                  case rel => exact ⟨by rw [HE]; first | rfl | simp, ⟨by repeat (first | (with_reducible first | exact HBc.out | apply below_alloc | apply pw_below_drewN | apply below_drew1) | exact HBc.out)⟩⟩
              · have A2 := Aside0.mk (show impl_isDay.f (rd_T54 l0 (x : Int)).f1 = some false from by rw [impl_Propose.day, decide_eq_false k2])
                have HE : impl_Propose.good (rd_T54 l0 (x : Int)) = false := by unfold impl_Propose.good; rw [decide_eq_false k2]; simp
                clear k1 k2
                go_wp2_with (first | (go_at_call 39; (with_reducible refine (impl_isDay.calls (rd_T54 l0 (x : Int)).f0 true _ A1.out).mono ?_); rintro e w' ⟨rfl, ⟨nd, rfl⟩⟩; (try first | exact ⟨rfl, _, World.drewN_drewN _ _ _⟩ | exact ⟨rfl, _, Eq.trans (World.drewN_drewN _ _ _) (congrArg (World.drewN _) (Nat.add_assoc _ _ _))⟩)) | (go_at_call 39; (with_reducible refine (impl_isDay.calls (rd_T54 l0 (x : Int)).f1 false _ A2.out).mono ?_); rintro e w' ⟨rfl, ⟨nd, rfl⟩⟩; (try first | exact ⟨rfl, _, World.drewN_drewN _ _ _⟩ | exact ⟨rfl, _, Eq.trans (World.drewN_drewN _ _ _) (congrArg (World.drewN _) (Nat.add_assoc _ _ _))⟩)))
                repeat (go_quiet (first | (go_at_call 39; (with_reducible refine (impl_isDay.calls (rd_T54 l0 (x : Int)).f0 true _ A1.out).mono ?_); rintro e w' ⟨rfl, ⟨nd, rfl⟩⟩; (try first | exact ⟨rfl, _, World.drewN_drewN _ _ _⟩ | exact ⟨rfl, _, Eq.trans (World.drewN_drewN _ _ _) (congrArg (World.drewN _) (Nat.add_assoc _ _ _))⟩)) | (go_at_call 39; (with_reducible refine (impl_isDay.calls (rd_T54 l0 (x : Int)).f1 false _ A2.out).mono ?_); rintro e w' ⟨rfl, ⟨nd, rfl⟩⟩; (try first | exact ⟨rfl, _, World.drewN_drewN _ _ _⟩ | exact ⟨rfl, _, Eq.trans (World.drewN_drewN _ _ _) (congrArg (World.drewN _) (Nat.add_assoc _ _ _))⟩))); try go_wp2_with (first | (go_at_call 39; (with_reducible refine (impl_isDay.calls (rd_T54 l0 (x : Int)).f0 true _ A1.out).mono ?_); rintro e w' ⟨rfl, ⟨nd, rfl⟩⟩; (try first | exact ⟨rfl, _, World.drewN_drewN _ _ _⟩ | exact ⟨rfl, _, Eq.trans (World.drewN_drewN _ _ _) (congrArg (World.drewN _) (Nat.add_assoc _ _ _))⟩)) | (go_at_call 39; (with_reducible refine (impl_isDay.calls (rd_T54 l0 (x : Int)).f1 false _ A2.out).mono ?_); rintro e w' ⟨rfl, ⟨nd, rfl⟩⟩; (try first | exact ⟨rfl, _, World.drewN_drewN _ _ _⟩ | exact ⟨rfl, _, Eq.trans (World.drewN_drewN _ _ _) (congrArg (World.drewN _) (Nat.add_assoc _ _ _))⟩))))
                go_meet
                case rel => exact ⟨by rw [HE]; first | rfl | simp, ⟨by repeat (first | (with_reducible first | exact HBc.out | apply below_alloc | apply pw_below_drewN | apply below_drew1) | exact HBc.out)⟩⟩
            · have A1 := Aside0.mk (show impl_isDay.f (rd_T54 l0 (x : Int)).f0 = some false from by rw [impl_Propose.day, decide_eq_false k1])
              have HE : impl_Propose.good (rd_T54 l0 (x : Int)) = false := by unfold impl_Propose.good; rw [decide_eq_false k1]; simp
              clear k1
              go_wp2_with (first | (go_at_call 39; (with_reducible refine (impl_isDay.calls (rd_T54 l0 (x : Int)).f0 false _ A1.out).mono ?_); rintro e w' ⟨rfl, ⟨nd, rfl⟩⟩; (try first | exact ⟨rfl, _, World.drewN_drewN _ _ _⟩ | exact ⟨rfl, _, Eq.trans (World.drewN_drewN _ _ _) (congrArg (World.drewN _) (Nat.add_assoc _ _ _))⟩)))
              repeat (go_quiet (first | (go_at_call 39; (with_reducible refine (impl_isDay.calls (rd_T54 l0 (x : Int)).f0 false _ A1.out).mono ?_); rintro e w' ⟨rfl, ⟨nd, rfl⟩⟩; (try first | exact ⟨rfl, _, World.drewN_drewN _ _ _⟩ | exact ⟨rfl, _, Eq.trans (World.drewN_drewN _ _ _) (congrArg (World.drewN _) (Nat.add_assoc _ _ _))⟩))); try go_wp2_with (first | (go_at_call 39; (with_reducible refine (impl_isDay.calls (rd_T54 l0 (x : Int)).f0 false _ A1.out).mono ?_); rintro e w' ⟨rfl, ⟨nd, rfl⟩⟩; (try first | exact ⟨rfl, _, World.drewN_drewN _ _ _⟩ | exact ⟨rfl, _, Eq.trans (World.drewN_drewN _ _ _) (congrArg (World.drewN _) (Nat.add_assoc _ _ _))⟩))))
              go_meet
              case rel => exact ⟨by rw [HE]; first | rfl | simp, ⟨by repeat (first | (with_reducible first | exact HBc.out | apply below_alloc | apply pw_below_drewN | apply below_drew1) | exact HBc.out)⟩⟩
          case rest =>
            obtain ⟨rfl, HBc2⟩ := hcut
            cases hgood : impl_Propose.good (rd_T54 l0 (x : Int)) with
            | false =>
              have hall : l0.all impl_Propose.good = false := by
                cases ha : l0.all impl_Propose.good with
                | false => rfl
                | true => rw [impl_Propose.all_good.1 ha x HXL.out] at hgood; cases hgood
              have h := H'.out
              clear H'
              rw [hall, if_neg (by decide)] at h
              obtain rfl := Option.some.inj h
              clear h hgood hall
              have HW2 := Aside0.mk (HW.out.trans ((HB.out.trans (HBc2.out.mono HB.out.size)).mono HW.out.size))
              go_wp2
              (try simp only [Exit.inBlock, Exit.then]); refine bodyPost_ret (results_tmp rfl _ _ _) rfl ?_
              exact ⟨_, rfl, Kd.R_nil _ _ _ _ _, HW2.out⟩
            | true =>
              have HGX := Aside0.mk hgood
              clear hgood
              replace hc0 := (HBc2.out.cell (World.block_lt_of_cell? _ _ hc0)).trans hc0
              replace hc1 := (HBc2.out.cell (World.block_lt_of_cell? _ _ hc1)).trans hc1
              replace hc2 := (HBc2.out.cell (World.block_lt_of_cell? _ _ hc2)).trans hc2
              replace hc3 := (HBc2.out.cell (World.block_lt_of_cell? _ _ hc3)).trans hc3
              have n0_ := Aside0.mk (Kd.R_below HM.out HBc2.out)
              have n1_ := Aside0.mk (Kd.R_below HC.out HBc2.out)
              have n2_ := Aside0.mk (HB.out.trans (HBc2.out.mono HB.out.size))
              clear HM HC HB HBc HBc2
              have HM := n0_
              have HC := n1_
              have HB := n2_
              clear n0_ n1_ n2_
              have hwx : wrap64 ((x : Int) + 1) = ((x + 1 : Nat) : Int) := by have := HXL.out; have := HL100.out; unfold wrap64; omega
              by_cases kM : (rd_T54 l0 (x : Int)).f0 ≤ a2
              · have bM : decide ((rd_T54 l0 (x : Int)).f0 ≤ a2) = true := decide_eq_true kM
                have EM : impl_Propose.isM a2 (rd_T54 l0 (x : Int)) = true := bM
                have EC : (!impl_Propose.isM a2 (rd_T54 l0 (x : Int)) && impl_Propose.isC a1 a2 (rd_T54 l0 (x : Int))) = false := by rw [EM]; rfl
                clear kM
                go_wp2_with (first | ((with_reducible refine gate_builtin (b := .append) (xs := #[.tmp 75, .tmp 77]) rfl ?_); at_builtin; refine Kd.R_append (Kd.int .i64) (w0 := wgB) wgB.heap.size rfl (.tmp 75) (.tmp 77) 44 3 (.int .i64 0) 8 rfl Try.underlying44 info3 rfl (by decide) (by omega) u9 (impl_Propose.must l0 a2 x) (x : Int) [.int .i64 (x : Int)] (fun k_ => some k_ ≠ (u10 : Value).ownBlock) (fun _ => False) rfl rfl ?aP (fun _ hk => hk.elim) ?aF ?aO ?aB ?aS ?aL ?_; (case aP => exact rfl); (case aB => exact (by repeat (first | (with_reducible first | exact HB.out | apply below_alloc | apply pw_below_drewN | apply below_drew1) | exact HB.out))); (case aF => exact (fun k_ hk => Kd.fresh' (Kd.R_lt HC.out) k_ hk)); (case aO => exact HM.out); (case aS => exact (below_size (by repeat (first | (with_reducible first | exact HB.out | apply below_alloc | apply pw_below_drewN | apply below_drew1) | exact HB.out)))); (case aL => have h1_ := impl_Propose.must_len l0 a2 x; have := HXL.out; have := HL100.out; omega); intro v78 w78 ho hb hg hat; have n0_ := Aside0.mk (Kd.R_after (ok := (fun _ => True)) (Kd.R_mono HC.out (fun _ hk => ⟨trivial, hk⟩)) hg hat); have n1_ := Aside0.mk hb; have n2_ := Aside0.mk ho; clear HM HC HB; have HC := n0_; have HB := n1_; have HM := n2_; clear n0_ n1_ n2_ ho hb hg hat))
                go_roundg k1
                case measure => omega
                case rel => exact ⟨x + 1, by first | rfl | (rw [hwx]) | simp [hwx], ⟨by have := HX.out; omega⟩, ⟨fun n hn => by rcases Nat.lt_succ_iff_lt_or_eq.1 hn with h_ | h_ <;> first | exact HG.out n h_ | (rw [h_]; exact HGX.out)⟩, ⟨by rw [impl_Propose.must_succ, EM]; first | exact (Kd.R_mono HM.out (fun _ hk => hk.2)) | exact (Kd.R_mono HM.out (fun _ hk => hk.2)) | exact HM.out⟩, ⟨by rw [impl_Propose.can_succ, EC]; first | exact (Kd.R_mono HC.out (fun _ hk => hk.2)) | exact (Kd.R_mono HC.out (fun _ hk => hk.2)) | exact HC.out⟩, HB⟩
              · have bM : decide ((rd_T54 l0 (x : Int)).f0 ≤ a2) = false := decide_eq_false kM
                have EM : impl_Propose.isM a2 (rd_T54 l0 (x : Int)) = false := bM
                clear kM
                by_cases kC : a1 ≤ (rd_T54 l0 (x : Int)).f1 ∧ (rd_T54 l0 (x : Int)).f1 ≤ a2 ∧ 0 < (rd_T54 l0 (x : Int)).f2
                · have e1 : decide (a1 ≤ (rd_T54 l0 (x : Int)).f1) = true := decide_eq_true kC.1
                  have e2 : decide ((rd_T54 l0 (x : Int)).f1 ≤ a2) = true := decide_eq_true kC.2.1
                  have e3 : decide (0 < (rd_T54 l0 (x : Int)).f2) = true := decide_eq_true kC.2.2
                  have EC : (!impl_Propose.isM a2 (rd_T54 l0 (x : Int)) && impl_Propose.isC a1 a2 (rd_T54 l0 (x : Int))) = true := by unfold impl_Propose.isC; rw [EM, e1, e2, e3]; rfl
                  clear kC
                  go_wp2_with (first | ((with_reducible refine gate_builtin (b := .append) (xs := #[.tmp 95, .tmp 97]) rfl ?_); at_builtin; refine Kd.R_append (Kd.int .i64) (w0 := wgB) wgB.heap.size rfl (.tmp 95) (.tmp 97) 44 3 (.int .i64 0) 8 rfl Try.underlying44 info3 rfl (by decide) (by omega) u10 (impl_Propose.can l0 a1 a2 x) (x : Int) [.int .i64 (x : Int)] (fun k_ => some k_ ≠ (u9 : Value).ownBlock) (fun _ => False) rfl rfl ?aP (fun _ hk => hk.elim) ?aF ?aO ?aB ?aS ?aL ?_; (case aP => exact rfl); (case aB => exact (by repeat (first | (with_reducible first | exact HB.out | apply below_alloc | apply pw_below_drewN | apply below_drew1) | exact HB.out))); (case aF => exact (fun k_ hk => Kd.fresh' (Kd.R_lt HM.out) k_ hk)); (case aO => exact HC.out); (case aS => exact (below_size (by repeat (first | (with_reducible first | exact HB.out | apply below_alloc | apply pw_below_drewN | apply below_drew1) | exact HB.out)))); (case aL => have h1_ := impl_Propose.can_len l0 a1 a2 x; have := HXL.out; have := HL100.out; omega); intro v98 w98 ho hb hg hat; have n0_ := Aside0.mk (Kd.R_after (ok := (fun _ => True)) (Kd.R_mono HM.out (fun _ hk => ⟨trivial, hk⟩)) hg hat); have n1_ := Aside0.mk hb; have n2_ := Aside0.mk ho; clear HM HC HB; have HM := n0_; have HB := n1_; have HC := n2_; clear n0_ n1_ n2_ ho hb hg hat))
                  go_roundg k1
                  case measure => omega
                  case rel => exact ⟨x + 1, by first | rfl | (rw [hwx]) | simp [hwx], ⟨by have := HX.out; omega⟩, ⟨fun n hn => by rcases Nat.lt_succ_iff_lt_or_eq.1 hn with h_ | h_ <;> first | exact HG.out n h_ | (rw [h_]; exact HGX.out)⟩, ⟨by rw [impl_Propose.must_succ, EM]; first | exact (Kd.R_mono HM.out (fun _ hk => hk.2)) | exact (Kd.R_mono HM.out (fun _ hk => hk.2)) | exact HM.out⟩, ⟨by rw [impl_Propose.can_succ, EC]; first | exact (Kd.R_mono HC.out (fun _ hk => hk.2)) | exact (Kd.R_mono HC.out (fun _ hk => hk.2)) | exact HC.out⟩, HB⟩
                · have EC : (!impl_Propose.isM a2 (rd_T54 l0 (x : Int)) && impl_Propose.isC a1 a2 (rd_T54 l0 (x : Int))) = false := by
                    unfold impl_Propose.isC
                    rw [EM]
                    simp only [Bool.not_false, Bool.true_and, Bool.and_eq_false_iff, decide_eq_false_iff_not]
                    omega
                  by_cases k1' : a1 ≤ (rd_T54 l0 (x : Int)).f1
                  · have e1 : decide (a1 ≤ (rd_T54 l0 (x : Int)).f1) = true := decide_eq_true k1'
                    by_cases k2' : (rd_T54 l0 (x : Int)).f1 ≤ a2
                    · have e2 : decide ((rd_T54 l0 (x : Int)).f1 ≤ a2) = true := decide_eq_true k2'
                      have e3 : decide (0 < (rd_T54 l0 (x : Int)).f2) = false := decide_eq_false (fun h3 => kC ⟨k1', k2', h3⟩)
                      clear kC k1' k2'
                      go_wp2
                      go_roundg k1
                      case measure => omega
                      case rel => exact ⟨x + 1, by first | rfl | (rw [hwx]) | simp [hwx], ⟨by have := HX.out; omega⟩, ⟨fun n hn => by rcases Nat.lt_succ_iff_lt_or_eq.1 hn with h_ | h_ <;> first | exact HG.out n h_ | (rw [h_]; exact HGX.out)⟩, ⟨by rw [impl_Propose.must_succ, EM]; first | exact (Kd.R_mono HM.out (fun _ hk => hk.2)) | exact (Kd.R_mono HM.out (fun _ hk => hk.2)) | exact HM.out⟩, ⟨by rw [impl_Propose.can_succ, EC]; first | exact (Kd.R_mono HC.out (fun _ hk => hk.2)) | exact (Kd.R_mono HC.out (fun _ hk => hk.2)) | exact HC.out⟩, HB⟩
                    · have e2 : decide ((rd_T54 l0 (x : Int)).f1 ≤ a2) = false := decide_eq_false k2'
                      clear kC k1' k2'
                      go_wp2
                      go_roundg k1
                      case measure => omega
                      case rel => exact ⟨x + 1, by first | rfl | (rw [hwx]) | simp [hwx], ⟨by have := HX.out; omega⟩, ⟨fun n hn => by rcases Nat.lt_succ_iff_lt_or_eq.1 hn with h_ | h_ <;> first | exact HG.out n h_ | (rw [h_]; exact HGX.out)⟩, ⟨by rw [impl_Propose.must_succ, EM]; first | exact (Kd.R_mono HM.out (fun _ hk => hk.2)) | exact (Kd.R_mono HM.out (fun _ hk => hk.2)) | exact HM.out⟩, ⟨by rw [impl_Propose.can_succ, EC]; first | exact (Kd.R_mono HC.out (fun _ hk => hk.2)) | exact (Kd.R_mono HC.out (fun _ hk => hk.2)) | exact HC.out⟩, HB⟩
                  · have e1 : decide (a1 ≤ (rd_T54 l0 (x : Int)).f1) = false := decide_eq_false k1'
                    clear kC k1'
                    go_wp2
                    go_roundg k1
                    case measure => omega
                    case rel => exact ⟨x + 1, by first | rfl | (rw [hwx]) | simp [hwx], ⟨by have := HX.out; omega⟩, ⟨fun n hn => by rcases Nat.lt_succ_iff_lt_or_eq.1 hn with h_ | h_ <;> first | exact HG.out n h_ | (rw [h_]; exact HGX.out)⟩, ⟨by rw [impl_Propose.must_succ, EM]; first | exact (Kd.R_mono HM.out (fun _ hk => hk.2)) | exact (Kd.R_mono HM.out (fun _ hk => hk.2)) | exact HM.out⟩, ⟨by rw [impl_Propose.can_succ, EC]; first | exact (Kd.R_mono HC.out (fun _ hk => hk.2)) | exact (Kd.R_mono HC.out (fun _ hk => hk.2)) | exact HC.out⟩, HB⟩
        · obtain rfl : x = l0.length := by have := HX.out; omega
          clear hx
          have hx1 : decide ((l0.length : Int) < (l0.length : Int)) = false := decide_eq_false (by omega)
          have h := H'.out
          clear H'
          rw [if_pos (impl_Propose.all_good.2 HG.out)] at h
          obtain ⟨s1, hs1, h⟩ := Option.bind_eq_some_iff.mp h
          obtain ⟨s2, hs2, h⟩ := Option.bind_eq_some_iff.mp h
          by_cases hin : ((s1 ++ s2).all (impl_Propose.inb l0) && decide ((s1 ++ s2).length ≤ 1000000)) = true
          case neg => rw [if_neg hin] at h; cases h
          rw [if_pos hin] at h
          obtain hgr := Option.some.inj h
          simp only [Bool.and_eq_true, decide_eq_true_eq] at hin
          obtain ⟨L, hL⟩ : ∃ L, s1 ++ s2 = L := ⟨_, rfl⟩
          rw [hL] at hin hgr
          have HLL := Aside0.mk hL
          clear hL
          have HIN := Aside0.mk hin.1
          have HLEN := Aside0.mk hin.2
          have HS1 := Aside0.mk hs1
          have HS2 := Aside0.mk hs2
          have HGR := Aside0.mk hgr
          have HcB := Aside0.mk (show wgB.cell? ⟨gB, 0, none⟩ = some (.slice A0 l0.length c0) from (blk_cell BKB.out 0).trans rfl)
          clear h hin hs1 hs2 hgr HG
          go_wp2_with (fail)
          refine (impl_sortBy_int.calls (impl_Propose.lt1 l0) 60 Try.f60 Try.func60 (by kernel_rfl) rfl ⟨gB, 0, none⟩ k (fun k_ => some k_ = (u9 : Value).ownBlock) u9 (impl_Propose.must l0 a2 l0.length) s1 wgB _ (fun W hW x y b hb => impl_Propose.one l0 ⟨gB, 0, none⟩ A0 c0 W ((hW.cell (World.block_lt_of_cell? _ _ HcB.out)).trans HcB.out) (Kd.C_below (Kd.C_below HR0.out HW.out) hW) x y b hb) HB.out (Kd.R_tight rfl HM.out) HS1.out).mono ?_
          rintro e w2 ⟨rfl, hy0, hb, hkp⟩
          have n0_ := Aside0.mk (Kd.R_reok (ok := fun k_ => some k_ ≠ (u10 : Value).ownBlock) rfl hy0 (fun k_ e_ => HM.out.1 k_ e_))
          have n1_ := Aside0.mk (Kd.R_mono (ok' := fun k_ => some k_ ≠ (u9 : Value).ownBlock) (Kd.R_keptB HC.out hkp (fun k_ hk_ hs_ => hk_ hs_)) (fun _ hk => hk.1))
          have n2_ := Aside0.mk hb
          clear HM HC HB hy0 hb hkp
          have HM := n0_
          have HC := n1_
          have HB := n2_
          clear n0_ n1_ n2_
          go_wp2_with (fail)
          refine (impl_sortBy_int.calls (impl_Propose.lt2 l0) 61 Try.f61 Try.func61 (by kernel_rfl) rfl ⟨gB, 0, none⟩ k (fun k_ => some k_ = (u10 : Value).ownBlock) u10 (impl_Propose.can l0 a1 a2 l0.length) s2 wgB _ (fun W hW x y b hb => impl_Propose.two l0 ⟨gB, 0, none⟩ A0 c0 W ((hW.cell (World.block_lt_of_cell? _ _ HcB.out)).trans HcB.out) (Kd.C_below (Kd.C_below HR0.out HW.out) hW) x y b hb) HB.out (Kd.R_tight rfl HC.out) HS2.out).mono ?_
          rintro e w3 ⟨rfl, hy0, hb, hkp⟩
          have n0_ := Aside0.mk (Kd.R_reok (ok := fun k_ => some k_ ≠ (u9 : Value).ownBlock) rfl hy0 (fun k_ e_ => HC.out.1 k_ e_))
          have n1_ := Aside0.mk (Kd.R_mono (ok' := fun k_ => some k_ ≠ (u10 : Value).ownBlock) (Kd.R_keptB HM.out hkp (fun k_ hk_ hs_ => hk_ hs_)) (fun _ hk => hk.1))
          have n2_ := Aside0.mk hb
          clear HM HC HB hy0 hb hkp
          have HC := n0_
          have HM := n1_
          have HB := n2_
          clear n0_ n1_ n2_
          obtain ⟨Ac, cc, ec⟩ := Kd.R_slice HC.out
          subst ec
          go_wp2_with (first | ((with_reducible refine gate_dst (N := 106) rfl ?_); refine Kd.R_lit (Kd.int .i64) _ 3 ?hg (N := 106) ?hd (xs := ([] : List Int)) (inner := []) (ok := fun _ => True) (okp := fun _ => True) ?hr ?hp (fun _ hk => hk) trivial (Below.refl _ _) (Nat.le_refl _) (by simp) ?_; (case hd => rfl); (case hg => rfl); (case hr => first | (go_simp; done) | (go_simp; rfl)); (case hp => exact (Reps.none _ _)); intro v106 w106 ho5 hb hg_ hnew_; clear hg_ hnew_; have n0_ := Aside0.mk (Kd.R_elder' HM.out (Kd.R_base ho5) hb); have n1_ := Aside0.mk (Kd.R_elder' HC.out (Kd.R_base ho5) hb); have n2_ := Aside0.mk (Kd.R_lower (Kd.R_new' (Kd.R_new' ho5 (Kd.R_lt HM.out)) (Kd.R_lt HC.out)) (below_size (by repeat (first | (with_reducible first | exact HB.out | apply below_alloc | apply pw_below_drewN | apply below_drew1) | exact HB.out)))); have n3_ := Aside0.mk (below_step (by repeat (first | (with_reducible first | exact HB.out | apply below_alloc | apply pw_below_drewN | apply below_drew1) | exact HB.out)) hb); clear HM HC HB; have HM := n0_; have HC := n1_; have HO := n2_; have HB := n3_; clear n0_ n1_ n2_ n3_; clear hb ho5) | ((with_reducible refine gate_builtin (b := .append) (xs := #[.tmp 107, .tmp 108]) rfl ?_); at_builtin; refine Kd.R_append_rows (Kd.int .i64) (w0 := wgB) wgB.heap.size rfl (.tmp 107) (.tmp 108) 44 3 (.int .i64 0) 8 rfl Try.underlying44 info3 rfl (by decide) (by omega) u9 s1 s2 Ac s2.length cc (fun k_ => some k_ ≠ (v106 : Value).ownBlock) (fun _ => False) rfl rfl ?aO ?aR (fun _ _ h => h) (fun _ h => h.elim) ?aF ?aB ?aS ?aL ?_; (case aR => exact (Kd.R_reads' HC.out).2.2); (case aB => exact HB.out); (case aF => exact (fun k_ hk => Kd.fresh' (Kd.R_lt HO.out) k_ hk)); (case aO => exact Kd.R_mono HM.out (fun _ hk => hk.2)); (case aS => exact (below_size HB.out)); (case aL => have h_ := HLEN.out; rw [← HLL.out, List.length_append] at h_; omega); intro v109 w109 ho hb hg hat; rw [HLL.out] at ho; have n0_ := Aside0.mk (Kd.R_after (ok := (fun _ => True)) (Kd.R_mono HO.out (fun _ hk => ⟨trivial, hk.1.2⟩)) hg hat); have n1_ := Aside0.mk hb; have n2_ := Aside0.mk ho; clear HO HB HM; have HO := n0_; have HB := n1_; have HL := n2_; clear n0_ n1_ n2_ ho hb hg hat; obtain ⟨AL, cL, eL⟩ := Kd.R_slice HL.out; subst eL))
          go_loopg [3, 13, 111] L.length (fun kq v3 v13 v111 w' => ∃ (x : Nat) (cash : Int) (out : List Int), v3 = .int .i64 cash ∧ v111 = .int .i64 (x : Int) ∧ Aside0 (x + kq = L.length) ∧ Aside0 (impl_Propose.gr l0 (L.drop x) cash out = r) ∧ Aside0 (out.length ≤ x) ∧ Aside0 (Kd.R (Kd.int .i64) 3 w' wgB.heap.size (fun k_ => some k_ ≠ (.slice AL L.length cL : Value).ownBlock) v13 out) ∧ Aside0 (Kd.R (Kd.int .i64) 3 w' wgB.heap.size (fun k_ => some k_ ≠ (v13 : Value).ownBlock) (.slice AL L.length cL) L) ∧ Aside0 (Below wgB.heap.size wgB w'))
          case atStart => exact ⟨0, a3, [], rfl, rfl, ⟨by omega⟩, ⟨HGR.out⟩, ⟨Nat.le_refl _⟩, ⟨Kd.R_mono HO.out (fun _ hk => hk.2)⟩, HL, HB⟩
          case round =>
            clear HGR HO HL HB HC
            obtain ⟨x, cash, out, rfl, rfl, HX, HGR, HOL, HO, HL, HB⟩ := hrel
            by_cases hx : x < L.length
            · obtain ⟨k1, rfl⟩ : ∃ k1, gk = k1 + 1 := ⟨gk - 1, by have := HX.out; omega⟩
              have hx1 : decide ((x : Int) < (L.length : Int)) = true := decide_eq_true (by omega)
              have p1 : 0 ≤ (x : Int) := by omega
              have q1 : (x : Int) < (L.length : Int) := by omega
              have HXL := Aside0.mk hx
              obtain ⟨adL, e1, hxL⟩ := Kd.at_int (Kd.R_reads' HL.out).2.2 (x : Int) p1 q1
              cases e1
              simp only [Int.toNat_natCast] at hxL
              have hel : rd L (x : Int) = L[x] := by
                unfold rd
                rw [Int.toNat_natCast, List.getD_eq_getElem?_getD, List.getElem?_eq_getElem hx]; rfl
              have hib : impl_Propose.inb l0 (rd L (x : Int)) = true := by rw [hel]; exact List.all_eq_true.1 HIN.out _ (List.getElem_mem hx)
              have hdrop : L.drop x = rd L (x : Int) :: L.drop (x + 1) := by rw [hel]; exact List.drop_eq_getElem_cons hx
              have h := HGR.out
              rw [hdrop, impl_Propose.gr] at h
              clear HGR hel hdrop hx
              simp only [impl_Propose.inb, Bool.and_eq_true, decide_eq_true_eq] at hib
              obtain ⟨p2, q2⟩ := hib
              obtain ⟨ad2, e2, _, _, _, hx3⟩ := at_T54 HR0.out (rd L (x : Int)) p2 q2
              cases e2
              have HBW := Aside0.mk (HW.out.trans (HB.out.mono HW.out.size))
              replace hx3 := (HBW.out.cell (World.block_lt_of_cell? w _ hx3)).trans hx3
              have hcB := (HB.out.cell (World.block_lt_of_cell? _ _ HcB.out)).trans HcB.out
              replace p1 := eq_true p1
              replace q1 := eq_true q1
              replace p2 := eq_true p2
              replace q2 := eq_true q2
              have hwx : wrap64 ((x : Int) + 1) = ((x + 1 : Nat) : Int) := by have := HXL.out; have := HLEN.out; unfold wrap64; omega
              by_cases kP : (rd_T54 l0 (rd L (x : Int))).f3 ≤ cash
              · have bP : decide ((rd_T54 l0 (rd L (x : Int))).f3 ≤ cash) = true := decide_eq_true kP
                rw [if_pos kP] at h
                have HGR := Aside0.mk h
                clear h kP
                go_wp2_with (first | ((with_reducible refine gate_builtin (b := .append) (xs := #[.tmp 129, .tmp 131]) rfl ?_); at_builtin; refine Kd.R_append (Kd.int .i64) (w0 := wgB) wgB.heap.size rfl (.tmp 129) (.tmp 131) 44 3 (.int .i64 0) 8 rfl Try.underlying44 info3 rfl (by decide) (by omega) u13 out (rd L (x : Int)) [.int .i64 (rd L (x : Int))] (fun k_ => some k_ ≠ (.slice (some adL) L.length cL : Value).ownBlock) (fun _ => False) rfl rfl ?aP (fun _ hk => hk.elim) ?aF ?aO ?aB ?aS ?aL ?_; (case aP => exact rfl); (case aB => exact (by repeat (first | (with_reducible first | exact HB.out | apply below_alloc | apply pw_below_drewN | apply below_drew1) | exact HB.out))); (case aF => exact (fun k_ hk => Kd.fresh' (Kd.R_lt HL.out) k_ hk)); (case aO => exact HO.out); (case aS => exact (below_size (by repeat (first | (with_reducible first | exact HB.out | apply below_alloc | apply pw_below_drewN | apply below_drew1) | exact HB.out)))); (case aL => have h_ := HLEN.out; have h2_ := HOL.out; have h3_ := HXL.out; omega); intro v132 w132 ho hb hg hat; have n0_ := Aside0.mk (Kd.R_after (ok := (fun _ => True)) (Kd.R_mono HL.out (fun _ hk => ⟨trivial, hk⟩)) hg hat); have n1_ := Aside0.mk hb; have n2_ := Aside0.mk ho; clear HO HB HL; have HL := n0_; have HB := n1_; have HO := n2_; clear n0_ n1_ n2_ ho hb hg hat))
                go_roundg k1
                case measure => omega
                case rel => exact ⟨x + 1, _, _, rfl, by first | rfl | (rw [hwx]) | simp [hwx], ⟨by have := HX.out; omega⟩, HGR, ⟨by rw [List.length_append]; have := HOL.out; simp; omega⟩, ⟨by first | exact HO.out | exact Kd.R_mono HO.out (fun _ hk => hk.2)⟩, ⟨by first | exact HL.out | exact Kd.R_mono HL.out (fun _ hk => hk.2)⟩, HB⟩
              · have bP : decide ((rd_T54 l0 (rd L (x : Int))).f3 ≤ cash) = false := decide_eq_false kP
                rw [if_neg kP] at h
                have HGR := Aside0.mk h
                clear h kP
                go_wp2
                go_roundg k1
                case measure => omega
                case rel => exact ⟨x + 1, _, _, rfl, by first | rfl | (rw [hwx]) | simp [hwx], ⟨by have := HX.out; omega⟩, HGR, ⟨by have := HOL.out; omega⟩, HO, HL, HB⟩
            · obtain rfl : x = L.length := by have := HX.out; omega
              have hx1 : decide ((L.length : Int) < (L.length : Int)) = false := decide_eq_false (by omega)
              have h := HGR.out
              rw [List.drop_length] at h
              obtain rfl : out = r := h
              clear h
              have HW2 := Aside0.mk (HW.out.trans (HB.out.mono HW.out.size))
              have HBS := Aside0.mk (below_size HW.out)
              go_wp2
              (try simp only [Exit.inBlock, Exit.then]); refine bodyPost_ret (results_tmp rfl _ _ _) rfl ?_
              exact ⟨_, rfl, Kd.R_lower (Kd.R_mono HO.out (fun _ _ => trivial)) HBS.out, HW2.out⟩
theorem impl_Propose.mono : ∀ a0 a1 a2 a3 k, LeO (impl_Propose.f k a0 a1 a2 a3) (impl_Propose.f (k + 1) a0 a1 a2 a3) := by
  intro a0 a1 a2 a3 k
  unfold impl_Propose.f
  repeat' first
  | exact impl_sortBy_int.mono _ _ _
  | exact LeO.refl _
  | exact LeO.none _
  | refine LeO.ite ?_ ?_
  | refine LeO.bind ?_ (fun _ => ?_)
end

end Go.Proofs.Ytdnfagcnojnmiaa.PFnProposed
