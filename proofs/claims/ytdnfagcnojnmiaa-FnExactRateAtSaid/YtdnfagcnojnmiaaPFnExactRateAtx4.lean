/- Lean forms and contracts of the functions that the law FnExactRateAt reaches, laid by a program; those of functions that it does not take are hand-made. No condition is added. -/
import Derived.Test.YtdnfagcnojnmiaaPFnExactRateAtx0
import Derived.Test.YtdnfagcnojnmiaaPFnExactRateAtx2
import Derived.Test.YtdnfagcnojnmiaaPFnExactRateAtx3
namespace Go.Proofs.Ytdnfagcnojnmiaa.PFnExactRateAt
open Go.RowKit Go.Proofs.YtdnfagcnojnmiaaW.PrintWords Go.Proofs.YtdnfagcnojnmiaaW.PrintLast Go.Proofs.YtdnfagcnojnmiaaW.PrintMore
attribute [local go_sem] max2_int min2_int max_two min_two max_three min_three max_four min_four   -- for this text's walks alone
set_option linter.unusedVariables false
set_option linter.unusedSimpArgs false

/-! ### impl_RateAt: function 18 -/
section
open Go.Maps
def impl_RateAt_1.T1 : Bool × List (List Nat × List Nat) := (true, [([], []), ([], []), ([0, 1], [0, 1]), ([2], [2]), ([3], [3]), ([], []), ([4, 5], [4, 5]), ([6, 0, 1, 2, 3, 4, 5, 6], [6])])
def impl_RateAt_1.B1 : List Nat := [0, 0, 3, 7, 15, 0, 63, 127]
theorem impl_RateAt_1.tab1 : rtab .any (opsOf Try.f47 1) = impl_RateAt_1.T1 := by kernel_rfl
theorem impl_RateAt_1.bits1 : waitsOk impl_RateAt_1.T1.2 impl_RateAt_1.B1 = true := by kernel_rfl
set_option maxHeartbeats 8000000 in
set_option maxRecDepth 100000 in
/-- The question that firstNot is given. -/
theorem impl_RateAt_1.calls (own : List S69) (day i : Int) (p1 p2 : Addr) (A : Option Addr) (c : Nat) (w : World) (h1 : w.cell? p1 = some (.slice A own.length c)) (h2 : w.cell? p2 = some (.int .i64 day)) (hc : Kd.C k69 w A own.length own) (hi0 : 0 ≤ i) (hi1 : i < (own.length : Int)) :
    Calls Try.prog 47 #[.int .i64 i, .pointer (some p1), .pointer (some p2)] w fun e w' => e = .returned (.bool (decide ((rd_T69 own i).f0 ≤ day))) ∧ Drawn0 w w' := by
  have hu69 := Try.underlying69
  obtain ⟨ad, e_, h3, _, _, _⟩ := at_T69 hc i hi0 hi1
  cases e_
  go_enter Try.func47, Try.ntmps47
  go_wp2
  refine start_ (n := 8) (S := fun w' => w'.cell? p1 = some (.slice (some ad) own.length c) ∧ w'.cell? p2 = some (.int .i64 day) ∧ w'.cell? (ad.add (i.toNat * 4)) = some (.int .i64 (rd_T69 own i).f0)) (ds := []) #[false, false, false, false, false, false, false, false] (by kernel_rfl) rfl rfl ⟨h1, h2, h3⟩ (fun hHeld => ?_); refine with_tabW impl_RateAt_1.tab1 impl_RateAt_1.bits1 (fun HT_ HW_ => ?_)
  generalize hw1 : w.drew = w1 at hHeld ⊢
  refine pure_ (i := 1) (N := some 6) (v := ?_) (a' := ?_) #[false, true, false, false, false, false, false, false] rfl rfl (any_of HT_.out (by kernel_rfl)) (fun _ _ _ h => h) (Or.inl ⟨by rfl, ?_⟩) ?_ ?_
  rotate_left
  · intro w'
    go_simp
    with_reducible rfl
  rotate_left
  · simp only [Act.put, List.setIfInBounds_toArray, List.set_cons_zero, List.set_cons_succ, i64_w, i32_w]
    rfl
  refine take_ (i := 0) (N := some 5) (v := ?_) (a' := ?_) #[true, true, false, false, false, false, false, false] rfl rfl (take_ofW HT_.out HW_.out (by kernel_rfl)) (fun _ _ _ h => h) (Or.inl ⟨by rfl, ?_⟩) hHeld ?_ ?_
  rotate_left
  · rintro w' ⟨s0, s1, s2⟩
    go_simp
    with_reducible rfl
  rotate_left
  · simp only [Act.put, List.setIfInBounds_toArray, List.set_cons_zero, List.set_cons_succ, i64_w, i32_w]
    rfl
  refine pure_ (i := 2) (N := some 7) (v := ?_) (a' := ?_) #[true, true, true, false, false, false, false, false] rfl rfl (any_of HT_.out (by kernel_rfl)) (fun _ _ _ h => h) (Or.inl ⟨by rfl, ?_⟩) ?_ ?_
  rotate_left
  · intro w'
    go_simp
    with_reducible rfl
  rotate_left
  · simp only [Act.put, List.setIfInBounds_toArray, List.set_cons_zero, List.set_cons_succ, i64_w, i32_w]
    rfl
  refine pure_ (i := 3) (N := some 8) (v := ?_) (a' := ?_) #[true, true, true, true, false, false, false, false] rfl rfl (any_of HT_.out (by kernel_rfl)) (fun _ _ _ h => h) (Or.inl ⟨by rfl, ?_⟩) ?_ ?_
  rotate_left
  · intro w'
    go_simp
    with_reducible rfl
  rotate_left
  · simp only [Act.put, List.setIfInBounds_toArray, List.set_cons_zero, List.set_cons_succ, i64_w, i32_w]
    rfl
  refine take_ (i := 4) (N := some 9) (v := ?_) (a' := ?_) #[true, true, true, true, true, false, false, false] rfl rfl (take_ofW HT_.out HW_.out (by kernel_rfl)) (fun _ _ _ h => h) (Or.inl ⟨by rfl, ?_⟩) hHeld ?_ ?_
  rotate_left
  · rintro w' ⟨s0, s1, s2⟩
    go_simp
    with_reducible rfl
  rotate_left
  · simp only [Act.put, List.setIfInBounds_toArray, List.set_cons_zero, List.set_cons_succ, i64_w, i32_w]
    rfl
  refine take_ (i := 5) (N := some 10) (v := ?_) (a' := ?_) #[true, true, true, true, true, true, false, false] rfl rfl (take_ofW HT_.out HW_.out (by kernel_rfl)) (fun _ _ _ h => h) (Or.inl ⟨by rfl, ?_⟩) hHeld ?_ ?_
  rotate_left
  · rintro w' ⟨s0, s1, s2⟩
    go_simp
    with_reducible rfl
  rotate_left
  · simp only [Act.put, List.setIfInBounds_toArray, List.set_cons_zero, List.set_cons_succ, i64_w, i32_w]
    rfl
  refine pure_ (i := 6) (N := some 11) (v := ?_) (a' := ?_) #[true, true, true, true, true, true, true, false] rfl rfl (any_of HT_.out (by kernel_rfl)) (fun _ _ _ h => h) (Or.inl ⟨by rfl, ?_⟩) ?_ ?_
  rotate_left
  · intro w'
    go_simp
    with_reducible rfl
  rotate_left
  · simp only [Act.put, List.setIfInBounds_toArray, List.set_cons_zero, List.set_cons_succ, i64_w, i32_w]
    rfl
  refine pure_ (i := 7) (N := some 4) (v := ?_) (a' := ?_) #[true, true, true, true, true, true, true, true] rfl rfl (any_of HT_.out (by kernel_rfl)) (fun _ _ _ h => h) (Or.inl ⟨by rfl, ?_⟩) ?_ ?_
  rotate_left
  · intro w'
    go_simp
    with_reducible rfl
  rotate_left
  · simp only [Act.put, List.setIfInBounds_toArray, List.set_cons_zero, List.set_cons_succ, i64_w, i32_w]
    rfl
  refine done_ (done_of HT_.out (by kernel_rfl)) ?_
  go_wp2
  go_ret
  exact ⟨rfl, 1, hw1.symm⟩

def impl_firstNot.l0 : Nat → List S69 → Int → Int → Int → Option Int
  | 0, _, _, _, _ => none
  | k + 1, own, day, low, n => if low < n then (if 0 ≤ wrap64 (Int.tdiv (wrap64 (low + n)) 2) then (if wrap64 (Int.tdiv (wrap64 (low + n)) 2) < (own.length : Int) then (if (rd_T69 own (wrap64 (Int.tdiv (wrap64 (low + n)) 2))).f0 ≤ day then impl_firstNot.l0 k own day (wrap64 (wrap64 (Int.tdiv (wrap64 (low + n)) 2) + 1)) n else impl_firstNot.l0 k own day low (wrap64 (Int.tdiv (wrap64 (low + n)) 2))) else none) else none) else some low
theorem impl_firstNot.cell {w w' : World} (h : Drawn0 w w') (p : Addr) : w'.cell? p = w.cell? p := by
  obtain ⟨n, rfl⟩ := h; rfl
theorem impl_firstNot.trans {w w' w'' : World} (h : Drawn0 w w') (h' : Drawn0 w' w'') : Drawn0 w w'' := by
  obtain ⟨n, rfl⟩ := h
  obtain ⟨m, rfl⟩ := h'
  exact ⟨_, World.drewN_drewN _ _ _⟩
set_option maxHeartbeats 8000000 in
set_option maxRecDepth 100000 in
theorem impl_firstNot.calls (k : Nat) (own : List S69) (day n r : Int) (p1 p2 : Addr) (A : Option Addr) (c : Nat) (w : World) (h1 : w.cell? p1 = some (.slice A own.length c)) (h2 : w.cell? p2 = some (.int .i64 day)) (hc : Kd.C k69 w A own.length own) (h : impl_firstNot.l0 k own day 0 n = some r) :
    Calls Try.prog 46 #[.int .i64 n, .func (.func 47) #[] #[.pointer (some p1), .pointer (some p2)]] w fun e w' => e = .returned (.int .i64 r) ∧ Drawn0 w w' := by
  have H' := Aside0.mk h
  have H1 := Aside0.mk h1
  have H2 := Aside0.mk h2
  have HC := Aside0.mk hc
  clear h h1 h2 hc
  go_enter Try.func46, Try.ntmps46
  go_wp2
  go_loopg [0, 5] k (fun kq v0 v5 w' => ∃ (x0 x5 : Int), v0 = .int .i64 x0 ∧ v5 = .int .i64 x5 ∧ Aside0 (impl_firstNot.l0 kq own day x5 x0 = some r) ∧ Aside0 (Drawn0 w w'))
  case atStart => exact ⟨n, 0, rfl, rfl, H', ⟨⟨0, rfl⟩⟩⟩
  case round =>
    clear H'
    obtain ⟨x0, x5, rfl, rfl, HA, HD⟩ := hrel
    cases gk with
    | zero => exact absurd HA.out (by simp [impl_firstNot.l0])
    | succ k1 =>
      have H := HA.out
      clear HA
      simp only [impl_firstNot.l0] at H
      by_cases c1 : x5 < x0
      · rw [if_pos c1] at H
        have c1b : decide (x5 < x0) = true := decide_eq_true c1
        clear c1
        obtain ⟨m, hm⟩ : ∃ m : Int, wrap64 (Int.tdiv (wrap64 (x5 + x0)) 2) = m := ⟨_, rfl⟩
        rw [hm] at H
        by_cases c2 : 0 ≤ m
        · rw [if_pos c2] at H
          by_cases c3 : m < (own.length : Int)
          · rw [if_pos c3] at H
            have HM := Aside0.mk (And.intro c2 c3)
            clear c2 c3
            by_cases c4 : (rd_T69 own m).f0 ≤ day
            · rw [if_pos c4] at H
              have c4b : decide ((rd_T69 own m).f0 ≤ day) = true := decide_eq_true c4
              clear c4
              have H' := Aside0.mk H
              clear H
              have hmw : IntKind.i64.wrap (Int.tdiv (IntKind.i64.wrap (x5 + x0)) 2) = m := by rw [i64_w, i64_w]; exact hm
              go_wp2_with (fail)
              refine (impl_RateAt_1.calls own day m p1 p2 A c _ ((impl_firstNot.cell HD.out p1).trans H1.out) ((impl_firstNot.cell HD.out p2).trans H2.out) (by obtain ⟨nn, e⟩ := HD.out; rw [e]; exact Kd.C_drewN HC.out nn) HM.out.1 HM.out.2).mono ?_
              rintro e w2 ⟨rfl, hd2⟩
              rw [c4b]
              have n0_ := Aside0.mk (impl_firstNot.trans HD.out hd2)
              clear HD hd2
              have HD := n0_
              clear n0_
              go_wp2
              go_roundg k1
              case measure => omega
              case rel => exact ⟨x0, wrap64 (m + 1), rfl, rfl, H', HD⟩
            · rw [if_neg c4] at H
              have c4b : decide ((rd_T69 own m).f0 ≤ day) = false := decide_eq_false c4
              clear c4
              have H' := Aside0.mk H
              clear H
              have hmw : IntKind.i64.wrap (Int.tdiv (IntKind.i64.wrap (x5 + x0)) 2) = m := by rw [i64_w, i64_w]; exact hm
              go_wp2_with (fail)
              refine (impl_RateAt_1.calls own day m p1 p2 A c _ ((impl_firstNot.cell HD.out p1).trans H1.out) ((impl_firstNot.cell HD.out p2).trans H2.out) (by obtain ⟨nn, e⟩ := HD.out; rw [e]; exact Kd.C_drewN HC.out nn) HM.out.1 HM.out.2).mono ?_
              rintro e w2 ⟨rfl, hd2⟩
              rw [c4b]
              have n0_ := Aside0.mk (impl_firstNot.trans HD.out hd2)
              clear HD hd2
              have HD := n0_
              clear n0_
              go_wp2
              go_roundg k1
              case measure => omega
              case rel => exact ⟨m, x5, rfl, rfl, H', HD⟩
          · rw [if_neg c3] at H; cases H
        · rw [if_neg c2] at H; cases H
      · rw [if_neg c1] at H
        have c1b : decide (x5 < x0) = false := decide_eq_false c1
        clear c1
        obtain rfl := Option.some.inj H
        go_wp2
        go_ret
        exact ⟨rfl, HD.out⟩

/-! A map of slices of the call's own: what it holds by key, and what each reads as. -/
/-- An element that is held as it is. -/
def holdE (v : Value) : Option (DataW Value × List MemPlace) := some (.held v, [])
/-- Block b of w is a map of at most n entries whose slices are E's (none where nothing was laid). -/
def Holds (w : World) (b n : Nat) (E : Int → Value) : Prop := ∃ D : DataW Value, w.ownsMap Try.prog 3 holdE b n D ∧ ∀ j kl, keyOf Try.prog 3 (.int .i64 j) = some kl → D.atKey kl (.held (.slice none 0 0)) = .held (E j)
theorem Holds.zeroE (w : World) : (zeroValue 40).run Try.prog w = .ok (.slice none 0 0) w := by kernel_rfl
theorem Holds.law : Keyed Try.prog 3 := Maps.int_keyed Try.underlying3
theorem Holds.key {j : Int} (h : -9223372036854775808 ≤ j ∧ j ≤ 9223372036854775807) : keyOf Try.prog 3 (.int .i64 j) = some (.int .i64 j) := by
  have hu := Try.underlying3
  have hw : (Lit.int .i64 j).wf = true := by
    have h1 : IntKind.i64.min = -9223372036854775808 := rfl
    have h2 : IntKind.i64.max = 9223372036854775807 := rfl
    simp only [Lit.wf, Bool.and_eq_true, decide_eq_true_eq]
    omega
  simp [keyOf, mapKey, hu, hw]
theorem Holds.made (w : World) : Holds (w.alloc (.map #[] 0)) w.heap.size 0 (fun _ => .slice none 0 0) := ⟨.map [], World.ownsMap_made _ _ _ _, fun _ _ _ => rfl⟩
theorem Holds.mono {w : World} {b n m : Nat} {E : Int → Value} (h : Holds w b n E) (hm : n ≤ m) : Holds w b m E := by obtain ⟨D, h1, h2⟩ := h; exact ⟨D, h1.mono hm, h2⟩
theorem Holds.block {w : World} {b n : Nat} {E : Int → Value} (h : Holds w b n E) : ∃ es clock, w.heap[b]? = some (.map es clock) := by obtain ⟨D, ⟨es, clock, hb, _⟩, _⟩ := h; exact ⟨es, clock, hb⟩
theorem Holds.lt {w : World} {b n : Nat} {E : Int → Value} (h : Holds w b n E) : b < w.heap.size := by obtain ⟨es, clock, hb⟩ := h.block; exact (Array.getElem?_eq_some_iff.1 hb).1
theorem Holds.same {w w' : World} {b n : Nat} {E : Int → Value} (h : Holds w b n E) (hs : w'.heap[b]? = w.heap[b]?) : Holds w' b n E := by
  obtain ⟨D, ⟨es, clock, hb, F, hn, hD⟩, h2⟩ := h
  exact ⟨D, ⟨es, clock, hs.trans hb, F, hn, hD⟩, h2⟩
theorem Holds.ne_cells {w : World} {b n : Nat} {E : Int → Value} (h : Holds w b n E) {g : Nat} {cs : Array Value} {t : TypeId} {fr : Nat × Nat} (hg : w.heap[g]? = some (.cells cs t fr)) : b ≠ g := by
  intro e
  subst e
  obtain ⟨es, clock, hb⟩ := h.block
  rw [hb] at hg
  cases hg
theorem Holds.look {w : World} {b n : Nat} {E : Int → Value} (h : Holds w b n E) {j : Int} (hj : -9223372036854775808 ≤ j ∧ j ≤ 9223372036854775807) : (Instr.lookup 72 (.map (some b)) (.int .i64 j) false).run Try.prog w = .ok (E j) w := by
  obtain ⟨D, h1, h2⟩ := h
  have hz := Holds.zeroE w
  obtain ⟨v, ps, hrun, hv⟩ := h1.lookup Holds.law Try.underlying72 hz (zd := .held (.slice none 0 0)) (zp := []) rfl (Holds.key hj)
  rw [h2 j _ (Holds.key hj)] at hv
  unfold holdE at hv
  simp only [Option.some.injEq, Prod.mk.injEq, DataW.held.injEq] at hv
  rw [← hv.1]
  exact hrun
theorem Holds.put {w : World} {b n : Nat} {E : Int → Value} (h : Holds w b n E) (hn : n < maxLen) {j : Int} (hj : -9223372036854775808 ≤ j ∧ j ≤ 9223372036854775807) (v : Value) :
    ∃ w', (Instr.mapUpdate 72 (.map (some b)) (.int .i64 j) v).run Try.prog w = .ok () w' ∧ Holds w' b (n + 1) (fun i => if i = j then v else E i) ∧ w.grownBy w' (some b) := by
  obtain ⟨D, h1, h2⟩ := h
  obtain ⟨w', hrun, h3, h4⟩ := h1.update Holds.law Try.underlying72 hn (Holds.key hj) (d := .held v) (ps := []) (val := v) rfl
  refine ⟨w', hrun, ⟨_, h3, fun i kl hk => ?_⟩, h4⟩
  by_cases hij : i = j
  · subst hij
    have e : kl = .int .i64 i := Option.some.inj (hk.symm.trans (Holds.key hj))
    subst e
    dsimp only
    rw [if_pos rfl, atKey_put_same h1.isMap (Holds.law.key (Holds.key hj))]
  · dsimp only
    rw [if_neg hij, atKey_put_other (fun e => hij ?_)]
    · exact h2 i kl hk
    · subst e
      have := Holds.law.inj hk (Holds.key hj)
      injection this
/-- The table of slices: what each key's slice reads as; no two lie in one row. -/
structure Tab (w : World) (B b n : Nat) (E : Int → Value) (X : Int → List S69) : Prop where
  holds : Holds w b n E
  rows : ∀ j, Kd.R k69 69 w B (fun k => ∀ i, i ≠ j → some k ≠ (E i).ownBlock) (E j) (X j)
theorem Tab.below {w w' : World} {B b n : Nat} {E : Int → Value} {X : Int → List S69} (h : Tab w B b n E X) (hb : Below w.heap.size w w') : Tab w' B b n E X :=
  ⟨h.holds.same (hb.block b h.holds.lt), fun j => Kd.R_below (h.rows j) hb⟩
theorem Tab.made (w : World) (B : Nat) : Tab (w.alloc (.map #[] 0)) B w.heap.size 0 (fun _ => .slice none 0 0) (fun _ => []) :=
  ⟨Holds.made w, fun _ => Kd.R_nil _ _ _ _ _⟩
theorem Tab.fresh {w : World} {B b n : Nat} {E : Int → Value} {X : Int → List S69} (h : Tab w B b n E X) (j : Int) : ∀ k, w.heap.size ≤ k → ∀ i, i ≠ j → some k ≠ (E i).ownBlock := fun k hk i _ e => by
  have := Kd.R_lt (h.rows i) k e.symm
  omega
theorem Tab.row {w : World} {B b n : Nat} {E : Int → Value} {X : Int → List S69} (h : Tab w B b n E X) (j : Int) : some b ≠ (E j).ownBlock := by
  intro hv
  obtain ⟨_, _, _, q, _, cells, hc⟩ := (Kd.R_bound (h.rows j)).1 b hv.symm
  exact h.holds.ne_cells hc rfl
/-- Behind an append to j's slice and the store of what it gave. -/
theorem Tab.step {w w1 : World} {B b n : Nat} {E : Int → Value} {X : Int → List S69} (h : Tab w B b n E X) (hn : n < maxLen) {j : Int} (hj : -9223372036854775808 ≤ j ∧ j ≤ 9223372036854775807) (v : Value) (ys : List S69)
    (hv : Kd.R k69 69 w1 B (fun k => ∀ i, i ≠ j → some k ≠ (E i).ownBlock) v ys) (hg : w.grownBy w1 (E j).ownBlock) (hat : v.ownBlock = (E j).ownBlock ∨ ∃ g, v.ownBlock = some g ∧ w.heap.size ≤ g) :
    ∃ w2, (Instr.mapUpdate 72 (.map (some b)) (.int .i64 j) v).run Try.prog w1 = .ok () w2 ∧ Tab w2 B b (n + 1) (fun i => if i = j then v else E i) (fun i => if i = j then ys else X i) ∧ w1.grownBy w2 (some b) := by
  have hh : Holds w1 b n E := h.holds.same (hg.block b h.holds.lt (h.row j))
  obtain ⟨w2, hrun, h3, h4⟩ := hh.put hn hj v
  refine ⟨w2, hrun, ⟨h3, fun i => ?_⟩, h4⟩
  have key : ∀ (u : Value) (zs : List S69) (ok : Nat → Prop), Kd.R k69 69 w1 B ok u zs → Kd.R k69 69 w2 B ok u zs := by
    intro u zs ok hr
    refine Kd.R_mono (Kd.R_grown (Kd.R_bound hr) h4 (fun k hk => ?_)) (fun k hk => hk.1)
    obtain ⟨_, _, _, q, _, cells, hc⟩ := hk
    intro e
    injection e with e
    exact hh.ne_cells hc e.symm
  by_cases hij : i = j
  · subst hij
    rw [if_pos rfl, if_pos rfl]
    refine key _ _ _ (Kd.R_mono hv (fun k hk i' hi' => ?_))
    rw [if_neg hi']
    exact hk i' hi'
  · rw [if_neg hij, if_neg hij]
    refine key _ _ _ ?_
    have h5 := Kd.R_after (ok := fun k => ∀ i', i' ≠ i → i' ≠ j → some k ≠ (E i').ownBlock) (v := E j) (v1 := v) (Kd.R_mono (h.rows i) (fun k hk => ⟨fun i' h1 _ => hk i' h1, hk j (fun e => hij e.symm)⟩)) hg hat
    refine Kd.R_mono h5 (fun k hk i' hi' => ?_)
    by_cases hi2 : i' = j
    · rw [if_pos hi2]; exact hk.2
    · rw [if_neg hi2]; exact hk.1 i' hi' hi2

def impl_RateAt.ok (k : Nat) (l0 : List S69) (a1 a2 a3 : Int) : Option Bool := (impl_RatesOk.f k l0 a1).bind fun t1 => if t1 = true then ((impl_between.f a1 1 20).bind fun t2 => if t2 = true then ((impl_between.f a2 0 (wrap64 (a1 - 1))).bind fun t3 => if t3 = true then impl_isDay.f a3 else some false) else some false) else some false
/-- The rates of one currency. -/
def impl_RateAt.own (l0 : List S69) (j : Int) : List S69 := l0.filter (fun x => decide (x.f1 = j))
def impl_RateAt.fits (l0 : List S69) (a2 : Int) : Bool := l0.all (fun x => decide (-9223372036854775808 ≤ x.f1 ∧ x.f1 ≤ 9223372036854775807)) && (decide (-9223372036854775808 ≤ a2 ∧ a2 ≤ 9223372036854775807) && decide (l0.length < 4000000000000))
def impl_RateAt.pick (k : Nat) (own : List S69) (a3 : Int) : Option (Int × Int × Bool) := (impl_firstNot.l0 k own a3 0 (own.length : Int)).bind fun q => if q = 0 then some (0, 0, false) else if 0 ≤ wrap64 (q - 1) then (if wrap64 (q - 1) < (own.length : Int) then some ((rd_T69 own (wrap64 (q - 1))).f2, (rd_T69 own (wrap64 (q - 1))).f3, true) else none) else none
def impl_RateAt.f (k : Nat) (l0 : List S69) (a1 a2 a3 : Int) : Option (Int × Int × Bool) :=
  if impl_RateAt.fits l0 a2 = true then (impl_RateAt.ok k l0 a1 a2 a3).bind fun b => if b = true then (if a2 = 0 then some (1, 1, true) else impl_RateAt.pick k (impl_RateAt.own l0 a2) a3) else some (0, 0, false) else none
/-- What one key has of the first n. -/
def impl_RateAt.X (l0 : List S69) (n : Nat) (j : Int) : List S69 := impl_RateAt.own (l0.take n) j
theorem impl_RateAt.X_zero (l0 : List S69) : impl_RateAt.X l0 0 = fun _ => [] := rfl
theorem impl_RateAt.X_succ (l0 : List S69) (n : Nat) (hn : n < l0.length) : impl_RateAt.X l0 (n + 1) = fun i => if i = (rd_T69 l0 (n : Int)).f1 then impl_RateAt.X l0 n (rd_T69 l0 (n : Int)).f1 ++ [rd_T69 l0 (n : Int)] else impl_RateAt.X l0 n i := by
  funext i
  have e : rd_T69 l0 (n : Int) = l0[n] := by
    unfold rd_T69
    rw [Int.toNat_natCast, List.getD_eq_getElem?_getD, List.getElem?_eq_getElem hn]; rfl
  unfold impl_RateAt.X impl_RateAt.own
  rw [← List.take_append_getElem hn, List.filter_append, e]
  by_cases h : i = l0[n].f1
  · rw [if_pos h, h]
    simp
  · rw [if_neg h, List.filter_cons_of_neg (by simpa using fun e => h e.symm)]
    simp
theorem impl_RateAt.X_len (l0 : List S69) (n : Nat) (j : Int) : (impl_RateAt.X l0 n j).length ≤ l0.length := by
  unfold impl_RateAt.X impl_RateAt.own
  refine Nat.le_trans (List.length_filter_le _ _) ?_
  rw [List.length_take]
  omega
theorem impl_RateAt.X_all (l0 : List S69) (j : Int) : impl_RateAt.X l0 l0.length j = impl_RateAt.own l0 j := by
  unfold impl_RateAt.X
  rw [List.take_length]
theorem impl_RateAt.fit {l0 : List S69} {a2 : Int} (h : impl_RateAt.fits l0 a2 = true) : (∀ n : Nat, n < l0.length → -9223372036854775808 ≤ (rd_T69 l0 (n : Int)).f1 ∧ (rd_T69 l0 (n : Int)).f1 ≤ 9223372036854775807) ∧ (-9223372036854775808 ≤ a2 ∧ a2 ≤ 9223372036854775807) ∧ l0.length < 4000000000000 := by
  unfold impl_RateAt.fits at h
  simp only [Bool.and_eq_true, decide_eq_true_eq, List.all_eq_true] at h
  refine ⟨fun n hn => ?_, h.2.1, h.2.2⟩
  unfold rd_T69
  rw [Int.toNat_natCast, List.getD_eq_getElem?_getD, List.getElem?_eq_getElem hn]
  exact h.1 _ (List.getElem_mem hn)
def impl_RateAt.T9 : Bool × List (List Nat × List Nat) := (true, [([], []), ([], []), ([1], [1]), ([], []), ([], []), ([4], [4]), ([3, 5], [3, 5]), ([], []), ([7], [7]), ([6, 8], [6, 8]), ([0, 2, 9, 9, 0, 1, 2, 3, 4, 5, 6, 7, 8, 9], [0, 2, 9])])
def impl_RateAt.B9 : List Nat := [0, 0, 2, 0, 0, 16, 56, 0, 128, 504, 1023]
theorem impl_RateAt.tab9 : rtab .any (opsOf Try.f18 9) = impl_RateAt.T9 := by kernel_rfl
theorem impl_RateAt.bits9 : waitsOk impl_RateAt.T9.2 impl_RateAt.B9 = true := by kernel_rfl
def impl_RateAt.T15 : Bool × List (List Nat × List Nat) := (true, [([], []), ([], []), ([1], [1]), ([0, 2], [0, 2]), ([3], [3]), ([4], [4]), ([], []), ([], []), ([7], [7]), ([6, 8], [6, 8]), ([9], [9]), ([10], [10]), ([5, 0, 1, 2, 3, 4, 5], [5]), ([11, 12, 0, 1, 2, 3, 4, 5, 6, 7, 8, 9, 10, 11, 12], [11]), ([13, 0, 1, 2, 3, 4, 5, 6, 7, 8, 9, 10, 11, 12, 13], [])])
def impl_RateAt.B15 : List Nat := [0, 0, 2, 7, 15, 31, 0, 0, 128, 448, 960, 1984, 63, 8191, 16383]
theorem impl_RateAt.tab15 : rtab .any (opsOf Try.f18 15) = impl_RateAt.T15 := by kernel_rfl
theorem impl_RateAt.bits15 : waitsOk impl_RateAt.T15.2 impl_RateAt.B15 = true := by kernel_rfl
set_option maxHeartbeats 8000000 in
set_option maxRecDepth 100000 in
theorem impl_RateAt.calls (k : Nat) (A0 : Option Addr) (c0 : Nat) (l0 : List (S69)) (a1 : Int) (a2 : Int) (a3 : Int) (r1 : Int) (r2 : Int) (r3 : Bool) (w : World) (hr0 : Kd.C k69 w A0 l0.length l0) (hc0 : l0.length ≤ c0) (h : impl_RateAt.f k l0 a1 a2 a3 = some (r1, r2, r3)) :
    Calls Try.prog 18 #[.slice A0 l0.length c0, .int .i64 a1, .int .i64 a2, .int .i64 a3] w fun e w' => e = .returned (.tuple #[.int .i64 r1, .int .i64 r2, .bool r3]) ∧ Below w.heap.size w w' := by
  have hu69 := Try.underlying69
  have HR0 := Aside0.mk hr0
  have HC0 := Aside0.mk hc0
  clear hr0 hc0
  unfold impl_RateAt.f at h
  by_cases hf : impl_RateAt.fits l0 a2 = true
  case neg => rw [if_neg hf] at h; cases h
  rw [if_pos hf] at h
  have HF := Aside0.mk (impl_RateAt.fit hf)
  clear hf
  obtain ⟨b, hb0, h⟩ := Option.bind_eq_some_iff.mp h
  have HOK := Aside0.mk hb0
  have H' := Aside0.mk h
  clear hb0 h
  go_enter Try.func18, Try.ntmps18
  go_upto_region 1 with (first | ((with_reducible refine gate_dst (N := 7) rfl ?_); refine box_event ?hg (N := 7) ?hd (cs := #[.int .i64 a3]) (t := 3) ?hr ?_; (case hd => rfl); (case hg => rfl); (case hr => first | (go_simp; done) | (go_simp; rfl)); intro gb7 hg wgb7 hbox hb; have HB := Aside0.mk (Below.refl wgb7.heap.size wgb7); have HW := Aside0.mk hb; have BK7 := Aside0.mk hbox; have GE7 := Aside0.mk hg; clear hb hbox hg))
  go_cut [36] (fun v36 wc => v36 = .bool (!b) ∧ Aside0 (Below wgb7.heap.size wgb7 wc))
  case first =>
    clear H'
    have hcz7 : wgb7.cell? ⟨gb7, 0, none⟩ = some (.int .i64 a3) := (blk_cell BK7.out 0).trans rfl
    have h := HOK.out
    unfold impl_RateAt.ok at h
    obtain ⟨t1, hA1, h⟩ := Option.bind_eq_some_iff.mp h
    have A1 := Aside0.mk hA1
    clear hA1
    by_cases c1 : t1 = true
    · subst c1
      rw [if_pos rfl] at h
      obtain ⟨t2, hA2, h⟩ := Option.bind_eq_some_iff.mp h
      have A2 := Aside0.mk hA2
      clear hA2
      by_cases c2 : t2 = true
      · subst c2
        rw [if_pos rfl] at h
        obtain ⟨t3, hA3, h⟩ := Option.bind_eq_some_iff.mp h
        have A3 := Aside0.mk hA3
        clear hA3
        by_cases c3 : t3 = true
        · subst c3
          rw [if_pos rfl] at h
          have A4 := Aside0.mk h
          clear h
          go_wp2_with (first | (go_at_call 45; (with_reducible refine (impl_RatesOk.calls k A0 c0 l0 a1 true _ (Kd.C_below (Kd.C_below HR0.out HW.out) HB.out) HC0.out A1.out).mono ?_); rintro e w' ⟨rfl, hb⟩; have hcw7 := (hb.cell (World.block_lt_of_cell? _ _ hcz7)).trans hcz7; have n0_ := Aside0.mk (HB.out.trans (hb.mono HB.out.size)); clear HB hb; have HB := n0_; clear n0_) | (go_at_call 37; (with_reducible refine (impl_between.calls a1 1 20 true _ A2.out).mono ?_); rintro e w' ⟨rfl, ⟨nd, rfl⟩⟩) | (go_at_call 37; (with_reducible refine (impl_between.calls a2 0 (wrap64 (a1 - 1)) true _ A3.out).mono ?_); rintro e w' ⟨rfl, ⟨nd, rfl⟩⟩) | (go_at_call 39; (with_reducible refine (impl_isDay.calls a3 b _ A4.out).mono ?_); rintro e w' ⟨rfl, ⟨nd, rfl⟩⟩))
          repeat (go_quiet (first | (go_at_call 45; (with_reducible refine (impl_RatesOk.calls k A0 c0 l0 a1 true _ (Kd.C_below (Kd.C_below HR0.out HW.out) HB.out) HC0.out A1.out).mono ?_); rintro e w' ⟨rfl, hb⟩; have hcw7 := (hb.cell (World.block_lt_of_cell? _ _ hcz7)).trans hcz7; have n0_ := Aside0.mk (HB.out.trans (hb.mono HB.out.size)); clear HB hb; have HB := n0_; clear n0_) | (go_at_call 37; (with_reducible refine (impl_between.calls a1 1 20 true _ A2.out).mono ?_); rintro e w' ⟨rfl, ⟨nd, rfl⟩⟩) | (go_at_call 37; (with_reducible refine (impl_between.calls a2 0 (wrap64 (a1 - 1)) true _ A3.out).mono ?_); rintro e w' ⟨rfl, ⟨nd, rfl⟩⟩) | (go_at_call 39; (with_reducible refine (impl_isDay.calls a3 b _ A4.out).mono ?_); rintro e w' ⟨rfl, ⟨nd, rfl⟩⟩)); try go_wp2_with (first | (go_at_call 45; (with_reducible refine (impl_RatesOk.calls k A0 c0 l0 a1 true _ (Kd.C_below (Kd.C_below HR0.out HW.out) HB.out) HC0.out A1.out).mono ?_); rintro e w' ⟨rfl, hb⟩; have hcw7 := (hb.cell (World.block_lt_of_cell? _ _ hcz7)).trans hcz7; have n0_ := Aside0.mk (HB.out.trans (hb.mono HB.out.size)); clear HB hb; have HB := n0_; clear n0_) | (go_at_call 37; (with_reducible refine (impl_between.calls a1 1 20 true _ A2.out).mono ?_); rintro e w' ⟨rfl, ⟨nd, rfl⟩⟩) | (go_at_call 37; (with_reducible refine (impl_between.calls a2 0 (wrap64 (a1 - 1)) true _ A3.out).mono ?_); rintro e w' ⟨rfl, ⟨nd, rfl⟩⟩) | (go_at_call 39; (with_reducible refine (impl_isDay.calls a3 b _ A4.out).mono ?_); rintro e w' ⟨rfl, ⟨nd, rfl⟩⟩)))
          go_meet
          case rel => exact ⟨by first | rfl | simp, ⟨by repeat (first | (with_reducible first | exact HB.out | apply below_alloc | apply pw_below_drewN | apply below_drew1) | exact HB.out)⟩⟩
        · rw [if_neg c3] at h
          obtain rfl := Option.some.inj h
          clear h
          replace c3 := Bool.eq_false_iff.mpr c3
          subst c3
          go_wp2_with (first | (go_at_call 45; (with_reducible refine (impl_RatesOk.calls k A0 c0 l0 a1 true _ (Kd.C_below (Kd.C_below HR0.out HW.out) HB.out) HC0.out A1.out).mono ?_); rintro e w' ⟨rfl, hb⟩; have hcw7 := (hb.cell (World.block_lt_of_cell? _ _ hcz7)).trans hcz7; have n0_ := Aside0.mk (HB.out.trans (hb.mono HB.out.size)); clear HB hb; have HB := n0_; clear n0_) | (go_at_call 37; (with_reducible refine (impl_between.calls a1 1 20 true _ A2.out).mono ?_); rintro e w' ⟨rfl, ⟨nd, rfl⟩⟩) | (go_at_call 37; (with_reducible refine (impl_between.calls a2 0 (wrap64 (a1 - 1)) false _ A3.out).mono ?_); rintro e w' ⟨rfl, ⟨nd, rfl⟩⟩))
          repeat (go_quiet (first | (go_at_call 45; (with_reducible refine (impl_RatesOk.calls k A0 c0 l0 a1 true _ (Kd.C_below (Kd.C_below HR0.out HW.out) HB.out) HC0.out A1.out).mono ?_); rintro e w' ⟨rfl, hb⟩; have hcw7 := (hb.cell (World.block_lt_of_cell? _ _ hcz7)).trans hcz7; have n0_ := Aside0.mk (HB.out.trans (hb.mono HB.out.size)); clear HB hb; have HB := n0_; clear n0_) | (go_at_call 37; (with_reducible refine (impl_between.calls a1 1 20 true _ A2.out).mono ?_); rintro e w' ⟨rfl, ⟨nd, rfl⟩⟩) | (go_at_call 37; (with_reducible refine (impl_between.calls a2 0 (wrap64 (a1 - 1)) false _ A3.out).mono ?_); rintro e w' ⟨rfl, ⟨nd, rfl⟩⟩)); try go_wp2_with (first | (go_at_call 45; (with_reducible refine (impl_RatesOk.calls k A0 c0 l0 a1 true _ (Kd.C_below (Kd.C_below HR0.out HW.out) HB.out) HC0.out A1.out).mono ?_); rintro e w' ⟨rfl, hb⟩; have hcw7 := (hb.cell (World.block_lt_of_cell? _ _ hcz7)).trans hcz7; have n0_ := Aside0.mk (HB.out.trans (hb.mono HB.out.size)); clear HB hb; have HB := n0_; clear n0_) | (go_at_call 37; (with_reducible refine (impl_between.calls a1 1 20 true _ A2.out).mono ?_); rintro e w' ⟨rfl, ⟨nd, rfl⟩⟩) | (go_at_call 37; (with_reducible refine (impl_between.calls a2 0 (wrap64 (a1 - 1)) false _ A3.out).mono ?_); rintro e w' ⟨rfl, ⟨nd, rfl⟩⟩)))
          go_meet
          case rel => exact ⟨by first | rfl | simp, ⟨by repeat (first | (with_reducible first | exact HB.out | apply below_alloc | apply pw_below_drewN | apply below_drew1) | exact HB.out)⟩⟩
      · rw [if_neg c2] at h
        obtain rfl := Option.some.inj h
        clear h
        replace c2 := Bool.eq_false_iff.mpr c2
        subst c2
        go_wp2_with (first | (go_at_call 45; (with_reducible refine (impl_RatesOk.calls k A0 c0 l0 a1 true _ (Kd.C_below (Kd.C_below HR0.out HW.out) HB.out) HC0.out A1.out).mono ?_); rintro e w' ⟨rfl, hb⟩; have hcw7 := (hb.cell (World.block_lt_of_cell? _ _ hcz7)).trans hcz7; have n0_ := Aside0.mk (HB.out.trans (hb.mono HB.out.size)); clear HB hb; have HB := n0_; clear n0_) | (go_at_call 37; (with_reducible refine (impl_between.calls a1 1 20 false _ A2.out).mono ?_); rintro e w' ⟨rfl, ⟨nd, rfl⟩⟩))
        repeat (go_quiet (first | (go_at_call 45; (with_reducible refine (impl_RatesOk.calls k A0 c0 l0 a1 true _ (Kd.C_below (Kd.C_below HR0.out HW.out) HB.out) HC0.out A1.out).mono ?_); rintro e w' ⟨rfl, hb⟩; have hcw7 := (hb.cell (World.block_lt_of_cell? _ _ hcz7)).trans hcz7; have n0_ := Aside0.mk (HB.out.trans (hb.mono HB.out.size)); clear HB hb; have HB := n0_; clear n0_) | (go_at_call 37; (with_reducible refine (impl_between.calls a1 1 20 false _ A2.out).mono ?_); rintro e w' ⟨rfl, ⟨nd, rfl⟩⟩)); try go_wp2_with (first | (go_at_call 45; (with_reducible refine (impl_RatesOk.calls k A0 c0 l0 a1 true _ (Kd.C_below (Kd.C_below HR0.out HW.out) HB.out) HC0.out A1.out).mono ?_); rintro e w' ⟨rfl, hb⟩; have hcw7 := (hb.cell (World.block_lt_of_cell? _ _ hcz7)).trans hcz7; have n0_ := Aside0.mk (HB.out.trans (hb.mono HB.out.size)); clear HB hb; have HB := n0_; clear n0_) | (go_at_call 37; (with_reducible refine (impl_between.calls a1 1 20 false _ A2.out).mono ?_); rintro e w' ⟨rfl, ⟨nd, rfl⟩⟩)))
        go_meet
        case rel => exact ⟨by first | rfl | simp, ⟨by repeat (first | (with_reducible first | exact HB.out | apply below_alloc | apply pw_below_drewN | apply below_drew1) | exact HB.out)⟩⟩
    · rw [if_neg c1] at h
      obtain rfl := Option.some.inj h
      clear h
      replace c1 := Bool.eq_false_iff.mpr c1
      subst c1
      go_wp2_with (first | (go_at_call 45; (with_reducible refine (impl_RatesOk.calls k A0 c0 l0 a1 false _ (Kd.C_below (Kd.C_below HR0.out HW.out) HB.out) HC0.out A1.out).mono ?_); rintro e w' ⟨rfl, hb⟩; have hcw7 := (hb.cell (World.block_lt_of_cell? _ _ hcz7)).trans hcz7; have n0_ := Aside0.mk (HB.out.trans (hb.mono HB.out.size)); clear HB hb; have HB := n0_; clear n0_))
      repeat (go_quiet (first | (go_at_call 45; (with_reducible refine (impl_RatesOk.calls k A0 c0 l0 a1 false _ (Kd.C_below (Kd.C_below HR0.out HW.out) HB.out) HC0.out A1.out).mono ?_); rintro e w' ⟨rfl, hb⟩; have hcw7 := (hb.cell (World.block_lt_of_cell? _ _ hcz7)).trans hcz7; have n0_ := Aside0.mk (HB.out.trans (hb.mono HB.out.size)); clear HB hb; have HB := n0_; clear n0_)); try go_wp2_with (first | (go_at_call 45; (with_reducible refine (impl_RatesOk.calls k A0 c0 l0 a1 false _ (Kd.C_below (Kd.C_below HR0.out HW.out) HB.out) HC0.out A1.out).mono ?_); rintro e w' ⟨rfl, hb⟩; have hcw7 := (hb.cell (World.block_lt_of_cell? _ _ hcz7)).trans hcz7; have n0_ := Aside0.mk (HB.out.trans (hb.mono HB.out.size)); clear HB hb; have HB := n0_; clear n0_)))
      go_meet
      case rel => exact ⟨by first | rfl | simp, ⟨by repeat (first | (with_reducible first | exact HB.out | apply below_alloc | apply pw_below_drewN | apply below_drew1) | exact HB.out)⟩⟩
  case rest =>
    obtain ⟨rfl, HB⟩ := hcut
    clear HOK
    have H := H'.out
    clear H'
    cases b with
    | false =>
      rw [if_neg (by decide)] at H
      obtain ⟨rfl, rfl, rfl⟩ : r1 = 0 ∧ r2 = 0 ∧ r3 = false := by injection H with H; injection H with H1 H2; injection H2 with H3 H4; exact ⟨H1.symm, H3.symm, H4.symm⟩
      clear H
      have HW2 := Aside0.mk (HW.out.trans (HB.out.mono HW.out.size))
      go_wp2
      (try simp only [Exit.inBlock, Exit.then]); refine bodyPost_ret (results_tmp3 rfl _ _ _) rfl ?_
      exact ⟨rfl, HW2.out⟩
    | true =>
      rw [if_pos rfl] at H
      by_cases c2 : a2 = 0
      · rw [if_pos c2] at H
        subst c2
        obtain ⟨rfl, rfl, rfl⟩ : r1 = 1 ∧ r2 = 1 ∧ r3 = true := by injection H with H; injection H with H1 H2; injection H2 with H3 H4; exact ⟨H1.symm, H3.symm, H4.symm⟩
        clear H
        have HW2 := Aside0.mk (HW.out.trans (HB.out.mono HW.out.size))
        go_wp2
        (try simp only [Exit.inBlock, Exit.then]); refine bodyPost_ret (results_tmp3 rfl _ _ _) rfl ?_
        exact ⟨rfl, HW2.out⟩
      · rw [if_neg c2] at H
        have c2b : (a2 == 0) = false := beq_eq_false_iff_ne.mpr c2
        clear c2
        have H' := Aside0.mk H
        clear H
        obtain ⟨bM, hbM⟩ : ∃ b, b = wc.heap.size := ⟨_, rfl⟩
        have hmm : (Instr.makeMap 72 none).run Try.prog wc = .ok (.map (some bM)) (wc.alloc (.map #[] 0)) := by rw [hbM]; exact run_makeMap _ _
        have HM := Aside0.mk (show Tab (wc.alloc (.map #[] 0)) wgb7.heap.size bM 0 (fun _ => .slice none 0 0) (impl_RateAt.X l0 0) from hbM ▸ Tab.made wc wgb7.heap.size)
        have HBM := Aside0.mk (show wgb7.heap.size ≤ bM from hbM ▸ below_size HB.out)
        have HB2 := Aside0.mk (below_alloc HB.out (.map #[] 0))
        clear HB
        have HB := HB2
        clear HB2
        go_wp2
        try rw [← hbM]
        clear hmm hbM
        go_loopg [42] l0.length (fun kq v42 w' => ∃ (x : Nat) (E : Int → Value), v42 = .int .i64 (x : Int) ∧ Aside0 (x + kq = l0.length) ∧ Aside0 (Tab w' wgb7.heap.size bM x E (impl_RateAt.X l0 x)) ∧ Aside0 (Below wgb7.heap.size wgb7 w'))
        case atStart => exact ⟨0, _, rfl, ⟨by omega⟩, HM, HB⟩
        case round =>
          clear HM HB
          obtain ⟨x, E, rfl, HX, HM, HB⟩ := hrel
          by_cases hx : x < l0.length
          · obtain ⟨k1, rfl⟩ : ∃ k1, gk = k1 + 1 := ⟨gk - 1, by have := HX.out; omega⟩
            have hx1 : decide ((x : Int) < (l0.length : Int)) = true := decide_eq_true (by omega)
            have p1 : 0 ≤ (x : Int) := by omega
            have q1 : (x : Int) < (l0.length : Int) := by omega
            have HXL := Aside0.mk hx
            clear hx
            obtain ⟨ad1, e1, hx0, hx1', hx2, hx3⟩ := at_T69 HR0.out (x : Int) p1 q1
            cases e1
            simp only [Int.toNat_natCast] at hx0 hx1' hx2 hx3
            have HBW := Aside0.mk (HW.out.trans (HB.out.mono HW.out.size))
            replace hx0 := (HBW.out.cell (World.block_lt_of_cell? w _ hx0)).trans hx0
            replace hx1' := (HBW.out.cell (World.block_lt_of_cell? w _ hx1')).trans hx1'
            replace hx2 := (HBW.out.cell (World.block_lt_of_cell? w _ hx2)).trans hx2
            replace hx3 := (HBW.out.cell (World.block_lt_of_cell? w _ hx3)).trans hx3
            replace p1 := eq_true p1
            replace q1 := eq_true q1
            have HBr := Aside0.mk (Below.refl wr.heap.size wr)
            have HRL := Aside0.mk (show ∀ j k, (E j).ownBlock = some k → k < wr.heap.size from fun j => Kd.R_lt (HM.out.rows j))
            have HB0 := Aside0.mk (below_size HB.out)
            go_upto_region 9 with (first | ((with_reducible refine gate_dst (N := 13) rfl ?_); refine box_event ?hg (N := 13) ?hd (cs := #[.int .i64 0, .int .i64 0, .int .i64 0, .int .i64 0]) (t := 69) ?hr ?_; (case hd => rfl); (case hg => rfl); (case hr => first | (go_simp; done) | (go_simp; rfl)); intro gb13 hg wgb13 hbox hb; have n0_ := Aside0.mk (below_step (by repeat (first | (with_reducible first | exact HB.out | apply below_alloc | apply pw_below_drewN | apply below_drew1) | exact HB.out)) hb); have n1_ := Aside0.mk (below_step (by repeat (first | (with_reducible first | exact HBr.out | apply below_alloc | apply pw_below_drewN | apply below_drew1) | exact HBr.out)) hb); have BK13 := Aside0.mk hbox; have GE13 := Aside0.mk (show wr.heap.size ≤ gb13 from by rw [hg]; exact Nat.le_refl _); clear HB HBr; have HB := n0_; have HBr := n1_; clear n0_ n1_ hb hbox hg; have hcz_0 : wgb13.cell? ⟨gb13, 0, none⟩ = some (.int .i64 0) := (blk_cell BK13.out 0).trans rfl; have hcz_1 : wgb13.cell? ⟨gb13, 1, none⟩ = some (.int .i64 0) := (blk_cell BK13.out 1).trans rfl; have hcz_2 : wgb13.cell? ⟨gb13, 2, none⟩ = some (.int .i64 0) := (blk_cell BK13.out 2).trans rfl; have hcz_3 : wgb13.cell? ⟨gb13, 3, none⟩ = some (.int .i64 0) := (blk_cell BK13.out 3).trans rfl; have hfz_0 := blk_frozen BK13.out 0; have hfz_1 := blk_frozen BK13.out 1; have hfz_2 := blk_frozen BK13.out 2; have hfz_3 := blk_frozen BK13.out 3))
            have BKr : ((((wgb13.setCell ⟨gb13, 0, none⟩ (.int .i64 (rd_T69 l0 (x : Int)).f0)).setCell ⟨gb13, 1, none⟩ (.int .i64 (rd_T69 l0 (x : Int)).f1)).setCell ⟨gb13, 2, none⟩ (.int .i64 (rd_T69 l0 (x : Int)).f2)).setCell ⟨gb13, 3, none⟩ (.int .i64 (rd_T69 l0 (x : Int)).f3)).heap[gb13]? = some (.cells #[.int .i64 (rd_T69 l0 (x : Int)).f0, .int .i64 (rd_T69 l0 (x : Int)).f1, .int .i64 (rd_T69 l0 (x : Int)).f2, .int .i64 (rd_T69 l0 (x : Int)).f3] 69 (0, 0)) := by
              refine blk_put (cs := #[.int .i64 (rd_T69 l0 (x : Int)).f0, .int .i64 (rd_T69 l0 (x : Int)).f1, .int .i64 (rd_T69 l0 (x : Int)).f2, .int .i64 0]) ?_ 3 _ rfl
              refine blk_put (cs := #[.int .i64 (rd_T69 l0 (x : Int)).f0, .int .i64 (rd_T69 l0 (x : Int)).f1, .int .i64 0, .int .i64 0]) ?_ 2 _ rfl
              refine blk_put (cs := #[.int .i64 (rd_T69 l0 (x : Int)).f0, .int .i64 0, .int .i64 0, .int .i64 0]) ?_ 1 _ rfl
              refine blk_put (cs := #[.int .i64 0, .int .i64 0, .int .i64 0, .int .i64 0]) ?_ 0 _ rfl
              exact BK13.out
            have GE7 : wgb7.heap.size ≤ gb13 := Nat.le_trans HB0.out GE13.out
            have n0_ := Aside0.mk (below_set (below_set (below_set (below_set HB.out GE7 (j := 0) (v := .int .i64 (rd_T69 l0 (x : Int)).f0)) GE7 (j := 1) (v := .int .i64 (rd_T69 l0 (x : Int)).f1)) GE7 (j := 2) (v := .int .i64 (rd_T69 l0 (x : Int)).f2)) GE7 (j := 3) (v := .int .i64 (rd_T69 l0 (x : Int)).f3))
            have n1_ := Aside0.mk (below_set (below_set (below_set (below_set HBr.out GE13.out (j := 0) (v := .int .i64 (rd_T69 l0 (x : Int)).f0)) GE13.out (j := 1) (v := .int .i64 (rd_T69 l0 (x : Int)).f1)) GE13.out (j := 2) (v := .int .i64 (rd_T69 l0 (x : Int)).f2)) GE13.out (j := 3) (v := .int .i64 (rd_T69 l0 (x : Int)).f3))
            have BKr' := Aside0.mk BKr
            clear BKr HB HBr BK13 hcz_0 hcz_1 hcz_2 hcz_3 hfz_0 hfz_1 hfz_2 hfz_3
            have HB := n0_
            have HBr := n1_
            clear n0_ n1_
            generalize ((((wgb13.setCell ⟨gb13, 0, none⟩ (.int .i64 (rd_T69 l0 (x : Int)).f0)).setCell ⟨gb13, 1, none⟩ (.int .i64 (rd_T69 l0 (x : Int)).f1)).setCell ⟨gb13, 2, none⟩ (.int .i64 (rd_T69 l0 (x : Int)).f2)).setCell ⟨gb13, 3, none⟩ (.int .i64 (rd_T69 l0 (x : Int)).f3)) = wS at HB HBr BKr' ⊢
            have HMs := Aside0.mk (Tab.below (Tab.below HM.out HBr.out) (below_drew (Below.refl _ wS)))
            have BKs := Aside0.mk (blk_drew BKr'.out)
            have HBs := Aside0.mk (below_drew1 HB.out)
            clear HM BKr' HB HBr
            refine start_ (n := 11) (S := fun w' => w'.cell? ⟨gb13, 0, none⟩ = some (.int .i64 (rd_T69 l0 (x : Int)).f0) ∧ w'.cell? ⟨gb13, 1, none⟩ = some (.int .i64 (rd_T69 l0 (x : Int)).f1) ∧ w'.cell? ⟨gb13, 2, none⟩ = some (.int .i64 (rd_T69 l0 (x : Int)).f2) ∧ w'.cell? ⟨gb13, 3, none⟩ = some (.int .i64 (rd_T69 l0 (x : Int)).f3) ∧ Holds w' bM x E) (ds := [10]) #[false, false, false, false, false, false, false, false, false, false, false] (by kernel_rfl) rfl rfl ⟨(blk_cell BKs.out 0).trans rfl, (blk_cell BKs.out 1).trans rfl, (blk_cell BKs.out 2).trans rfl, (blk_cell BKs.out 3).trans rfl, HMs.out.holds⟩ (fun hHeld => ?_); refine with_tabW impl_RateAt.tab9 impl_RateAt.bits9 (fun HT_ HW_ => ?_)
            generalize wS.drew = w1 at HMs BKs HBs hHeld ⊢
            refine pure_ (i := 0) (N := some 46) (v := ?_) (a' := ?_) #[true, false, false, false, false, false, false, false, false, false, false] rfl rfl (any_of HT_.out (by kernel_rfl)) (fun _ _ _ h => h) (Or.inl ⟨by rfl, ?_⟩) ?_ ?_
            rotate_left
            · intro w'
              go_simp
              with_reducible rfl
            rotate_left
            · simp only [Act.put, List.setIfInBounds_toArray, List.set_cons_zero, List.set_cons_succ, i64_w, i32_w]
              rfl
            refine pure_ (i := 1) (N := some 47) (v := ?_) (a' := ?_) #[true, true, false, false, false, false, false, false, false, false, false] rfl rfl (any_of HT_.out (by kernel_rfl)) (fun _ _ _ h => h) (Or.inl ⟨by rfl, ?_⟩) ?_ ?_
            rotate_left
            · intro w'
              go_simp
              with_reducible rfl
            rotate_left
            · simp only [Act.put, List.setIfInBounds_toArray, List.set_cons_zero, List.set_cons_succ, i64_w, i32_w]
              rfl
            refine pure_ (i := 3) (N := some 49) (v := ?_) (a' := ?_) #[true, true, false, true, false, false, false, false, false, false, false] rfl rfl (any_of HT_.out (by kernel_rfl)) (fun _ _ _ h => h) (Or.inl ⟨by rfl, ?_⟩) ?_ ?_
            rotate_left
            · intro w'
              go_simp
              with_reducible rfl
            rotate_left
            · simp only [Act.put, List.setIfInBounds_toArray, List.set_cons_zero, List.set_cons_succ, i64_w, i32_w]
              rfl
            refine pure_ (i := 4) (N := some 50) (v := ?_) (a' := ?_) #[true, true, false, true, true, false, false, false, false, false, false] rfl rfl (any_of HT_.out (by kernel_rfl)) (fun _ _ _ h => h) (Or.inl ⟨by rfl, ?_⟩) ?_ ?_
            rotate_left
            · intro w'
              go_simp
              with_reducible rfl
            rotate_left
            · simp only [Act.put, List.setIfInBounds_toArray, List.set_cons_zero, List.set_cons_succ, i64_w, i32_w]
              rfl
            refine take_ (i := 2) (N := some 48) (v := ?_) (a' := ?_) #[true, true, true, true, true, false, false, false, false, false, false] rfl rfl (take_ofW HT_.out HW_.out (by kernel_rfl)) (fun _ _ _ h => h) (Or.inl ⟨by rfl, ?_⟩) hHeld ?_ ?_
            rotate_left
            · rintro w' ⟨s0, s1, s2, s3, s4⟩
              go_simp
              with_reducible rfl
            rotate_left
            · simp only [Act.put, List.setIfInBounds_toArray, List.set_cons_zero, List.set_cons_succ, i64_w, i32_w]
              rfl
            refine take_ (i := 5) (N := some 51) (v := ?_) (a' := ?_) #[true, true, true, true, true, true, false, false, false, false, false] rfl rfl (take_ofW HT_.out HW_.out (by kernel_rfl)) (fun _ _ _ h => h) (Or.inl ⟨by rfl, ?_⟩) hHeld ?_ ?_
            rotate_left
            · rintro w' ⟨s0, s1, s2, s3, s4⟩
              go_simp
              with_reducible rfl
            rotate_left
            · simp only [Act.put, List.setIfInBounds_toArray, List.set_cons_zero, List.set_cons_succ, i64_w, i32_w]
              rfl
            refine take_ (i := 6) (N := some 52) (v := E (rd_T69 l0 (x : Int)).f1) (a' := ?_) #[true, true, true, true, true, true, true, false, false, false, false] rfl rfl (take_ofW HT_.out HW_.out (by kernel_rfl)) (fun _ _ _ h => h) (Or.inl ⟨by rfl, ?_⟩) hHeld ?_ ?_
            · rintro w' ⟨s0, s1, s2, s3, s4⟩
              have hl := Holds.look s4 (HF.out.1 x HXL.out)
              simp [execOp, Act.eval, hl]
            rotate_left
            · simp only [Act.put, List.setIfInBounds_toArray, List.set_cons_zero, List.set_cons_succ, i64_w, i32_w]
              rfl
            refine take_ (i := 7) (N := some 53) (v := ?_) (a' := ?_) #[true, true, true, true, true, true, true, true, false, false, false] rfl rfl (take_ofW HT_.out HW_.out (by kernel_rfl)) (fun _ _ _ h => h) (Or.inl ⟨by rfl, ?_⟩) hHeld ?_ ?_
            rotate_left
            · rintro w' ⟨s0, s1, s2, s3, s4⟩
              go_simp
              with_reducible rfl
            rotate_left
            · simp only [Act.put, List.setIfInBounds_toArray, List.set_cons_zero, List.set_cons_succ, i64_w, i32_w]
              rfl
            refine one_ (i := 8) (N := some 54) #[true, true, true, true, true, true, true, true, true, false, false] rfl rfl (one_of HT_.out (by kernel_rfl)) (by decide) (fun K hK => ?_)
            refine value_ (w1 := ?_) (v := ?_) (by rfl) rfl ?_ ?_
            rotate_left 2
            · go_simp
              constructor
              · rfl
              · rfl
            refine hK.out _ _ ⟨(blk_cell (blk_alloc BKs.out _) 0).trans rfl, (blk_cell (blk_alloc BKs.out _) 1).trans rfl, (blk_cell (blk_alloc BKs.out _) 2).trans rfl, (blk_cell (blk_alloc BKs.out _) 3).trans rfl, HMs.out.holds.same ((below_alloc (Below.refl _ _) _).block bM HMs.out.holds.lt)⟩ (fun hHeld => ?_)
            clear hK K
            refine norm_ (a' := ?_) ?_ ?_
            rotate_left
            · show Act.put _ (some 54) _ = _
              simp only [Act.put, List.setIfInBounds_toArray, List.set_cons_zero, List.set_cons_succ, i64_w, i32_w]
              rfl
            refine one_ (i := 9) (N := some 55) #[true, true, true, true, true, true, true, true, true, true, false] rfl rfl (one_of HT_.out (by kernel_rfl)) (by decide) (fun K hK => ?_)
            refine Kd.R_append_step k69 (w0 := wgb7) wgb7.heap.size (by rfl) (.tmp 52) (.tmp 54) 40 69 (.agg #[(.int .i64 0), (.int .i64 0), (.int .i64 0), (.int .i64 0)]) 32 rfl Try.underlying40 info69 rfl (by decide) (by omega) (E (rd_T69 l0 (x : Int)).f1) (impl_RateAt.X l0 x (rd_T69 l0 (x : Int)).f1) (rd_T69 l0 (x : Int)) [.int .i64 (rd_T69 l0 (x : Int)).f0, .int .i64 (rd_T69 l0 (x : Int)).f1, .int .i64 (rd_T69 l0 (x : Int)).f2, .int .i64 (rd_T69 l0 (x : Int)).f3] (fun k_ => ∀ i, i ≠ (rd_T69 l0 (x : Int)).f1 → some k_ ≠ (E i).ownBlock) (fun _ => False) rfl rfl ?aP (fun _ hk => hk.elim) ?aF ?aO ?aB ?aS ?aL ?_
            (case aP => exact k69_mkM _ _ _ (rd_T69 l0 (x : Int)))
            (case aB => exact HBs.out)
            (case aF => exact Tab.fresh HMs.out _)
            (case aO => exact HMs.out.rows _)
            (case aS => exact below_size HBs.out)
            (case aL => have h1_ := impl_RateAt.X_len l0 x (rd_T69 l0 (x : Int)).f1; have h2_ := HF.out.2.2; omega)
            intro v9 w9 ho hb hg hat
            have hrow := HMs.out.row (rd_T69 l0 (x : Int)).f1
            have BK9 := Aside0.mk (blk_grown (g := gb13) (o := .cells #[.int .i64 (rd_T69 l0 (x : Int)).f0, .int .i64 (rd_T69 l0 (x : Int)).f1, .int .i64 (rd_T69 l0 (x : Int)).f2, .int .i64 (rd_T69 l0 (x : Int)).f3] 69 (0, 0)) BKs.out hg (fun e_ => by have h1_ := HRL.out (rd_T69 l0 (x : Int)).f1 gb13 e_.symm; have h2_ := GE13.out; omega))
            have HH9 := Aside0.mk (HMs.out.holds.same (hg.block bM HMs.out.holds.lt hrow))
            have hfit := HF.out.1 x HXL.out
            obtain ⟨w10, hrun, hT, hg10⟩ := Tab.step HMs.out (by have := HXL.out; have := HF.out.2.2; unfold maxLen; omega) hfit v9 _ ho hg hat
            have HT10 := Aside0.mk hT
            have HB10 := Aside0.mk (hb.grown hg10 hb.size (fun j hj => by injection hj with hj; have := HBM.out; omega))
            refine hK.out _ _ ⟨(blk_cell BK9.out 0).trans rfl, (blk_cell BK9.out 1).trans rfl, (blk_cell BK9.out 2).trans rfl, (blk_cell BK9.out 3).trans rfl, HH9.out⟩ (fun hHeld => ?_)
            clear hK K ho hb hg hat hT hg10
            refine norm_ (a' := ?_) ?_ ?_
            rotate_left
            · show Act.put _ (some 55) _ = _
              simp only [Act.put, List.setIfInBounds_toArray, List.set_cons_zero, List.set_cons_succ, i64_w, i32_w]
              rfl
            refine last_ (i := 10) (N := none) #[true, true, true, true, true, true, true, true, true, true, true] rfl rfl (one_of HT_.out (by kernel_rfl)) (by decide) (fun K hK => ?_)
            refine skip_ (w1 := w10) (by rfl) rfl ?_ ?_
            · simp [execOp, Act.eval, hrun]
            refine hK.out _ _ ?_
            clear hK K
            refine done_ (done_of HT_.out (by kernel_rfl)) ?_
            have hwx : wrap64 ((x : Int) + 1) = ((x + 1 : Nat) : Int) := by have := HXL.out; have := HF.out.2.2; unfold wrap64; omega
            go_wp2
            go_roundg k1
            case measure => omega
            case rel => exact ⟨x + 1, _, by first | rfl | (rw [hwx]) | simp [hwx], ⟨by have := HX.out; omega⟩, ⟨by rw [impl_RateAt.X_succ l0 x HXL.out]; exact HT10.out⟩, HB10⟩
          · obtain rfl : x = l0.length := by have := HX.out; omega
            clear hx
            have hx1 : decide ((l0.length : Int) < (l0.length : Int)) = false := decide_eq_false (by omega)
            have HR := Aside0.mk (show Kd.R k69 69 wr wgb7.heap.size _ (E a2) (impl_RateAt.own l0 a2) from impl_RateAt.X_all l0 a2 ▸ HM.out.rows a2)
            have hlook := Holds.look HM.out.holds HF.out.2.1
            obtain ⟨Ao, co, eo⟩ := Kd.R_slice HR.out
            rw [eo] at hlook HR
            have HRC := Aside0.mk (Kd.R_reads' HR.out).2.2
            have HGE := Aside0.mk (below_size HB.out)
            have h := H'.out
            clear H' HM HR eo
            unfold impl_RateAt.pick at h
            obtain ⟨q, hq, h⟩ := Option.bind_eq_some_iff.mp h
            have HQ := Aside0.mk hq
            have H2 := Aside0.mk h
            clear hq h
            go_wp2_with (first | ((with_reducible refine gate_dst (N := 14) rfl ?_); refine box_event ?hg (N := 14) ?hd (cs := #[.slice none 0 0]) (t := 40) ?hr ?_; (case hd => rfl); (case hg => rfl); (case hr => first | (go_simp; done) | (go_simp; rfl)); intro gb14 hg wgb14 hbox hb; have n0_ := Aside0.mk (below_step HB.out hb); have HBr := Aside0.mk hb; have BK14 := Aside0.mk hbox; have GE14 := Aside0.mk (show wr.heap.size ≤ gb14 from by rw [hg]; exact Nat.le_refl _); clear HB; have HB := n0_; clear n0_ hb hbox hg; have hcz_0 : wgb14.cell? ⟨gb14, 0, none⟩ = some (.slice none 0 0) := (blk_cell BK14.out 0).trans rfl; have hfz_0 := blk_frozen BK14.out 0))
            have HC14 : (wgb14.setCell ⟨gb14, 0, none⟩ (.slice Ao (impl_RateAt.own l0 a2).length co)).cell? ⟨gb14, 0, none⟩ = some (.slice Ao (impl_RateAt.own l0 a2).length co) := (blk_cell (blk_put (cs := #[.slice none 0 0]) BK14.out 0 _ rfl) 0).trans rfl
            have GE7b : wgb7.heap.size ≤ gb14 := Nat.le_trans HGE.out GE14.out
            have HBZ := Aside0.mk (below_set HB.out GE7b (j := 0) (v := .slice Ao (impl_RateAt.own l0 a2).length co))
            have HBrZ := Aside0.mk (below_set HBr.out GE14.out (j := 0) (v := .slice Ao (impl_RateAt.own l0 a2).length co))
            have HC7 := (blk_cell (blk_below BK7.out HBZ.out) 0).trans rfl
            have HCC := Kd.C_below HRC.out HBrZ.out
            have HWZ0 := HW.out.trans (HBZ.out.mono HW.out.size)
            clear HB HBr hcz_0 hfz_0 BK14 hlook
            generalize wgb14.setCell ⟨gb14, 0, none⟩ (.slice Ao (impl_RateAt.own l0 a2).length co) = wS at HC14 HBZ HBrZ HC7 HCC HWZ0 ⊢
            refine (impl_firstNot.calls k (impl_RateAt.own l0 a2) a3 _ q ⟨gb14, 0, none⟩ ⟨gb7, 0, none⟩ Ao co _ HC14 HC7 HCC HQ.out).mono ?_
            rintro e w12 ⟨rfl, hd⟩
            have HC14b := (impl_firstNot.cell hd ⟨gb14, 0, none⟩).trans HC14
            have HCC2 : Kd.C k69 w12 Ao (impl_RateAt.own l0 a2).length (impl_RateAt.own l0 a2) := by obtain ⟨nn, e⟩ := hd; rw [e]; exact Kd.C_drewN HCC nn
            have HWZ := Aside0.mk (show Below w.heap.size w w12 by obtain ⟨nn, e⟩ := hd; rw [e]; exact pw_below_drewN HWZ0 nn)
            clear hd HC14 HC7 HCC HWZ0 HBZ HBrZ
            have HC14 := HC14b
            clear HC14b
            have h := H2.out
            clear H2
            by_cases hq0 : q = 0
            · rw [if_pos hq0] at h
              obtain ⟨rfl, rfl, rfl⟩ : r1 = 0 ∧ r2 = 0 ∧ r3 = false := by injection h with H; injection H with H1 H2; injection H2 with H3 H4; exact ⟨H1.symm, H3.symm, H4.symm⟩
              clear h
              subst hq0
              go_wp2
              (try simp only [Exit.inBlock, Exit.then]); refine bodyPost_ret (results_tmp3 rfl _ _ _) rfl ?_
              exact ⟨rfl, HWZ.out⟩
            · rw [if_neg hq0] at h
              have hq0b : (q == 0) = false := beq_eq_false_iff_ne.mpr hq0
              clear hq0
              by_cases hi0 : 0 ≤ wrap64 (q - 1)
              · rw [if_pos hi0] at h
                by_cases hi1 : wrap64 (q - 1) < ((impl_RateAt.own l0 a2).length : Int)
                · rw [if_pos hi1] at h
                  obtain ⟨rfl, rfl, rfl⟩ : r1 = (rd_T69 (impl_RateAt.own l0 a2) (wrap64 (q - 1))).f2 ∧ r2 = (rd_T69 (impl_RateAt.own l0 a2) (wrap64 (q - 1))).f3 ∧ r3 = true := by injection h with H; injection H with H1 H2; injection H2 with H3 H4; exact ⟨H1.symm, H3.symm, H4.symm⟩
                  clear h
                  obtain ⟨ad5, e5, _, _, HE2, HE3⟩ := at_T69 HCC2 (wrap64 (q - 1)) hi0 hi1
                  cases e5
                  clear HCC2
                  go_upto_region 15 with (fail)
                  refine start_ (n := 15) (S := fun w' => w'.cell? ⟨gb14, 0, none⟩ = some (.slice (some ad5) (impl_RateAt.own l0 a2).length co) ∧ w'.cell? ⟨(ad5.add ((wrap64 (q - 1)).toNat * 4)).block, (ad5.add ((wrap64 (q - 1)).toNat * 4)).off + 2, none⟩ = some (.int .i64 (rd_T69 (impl_RateAt.own l0 a2) (wrap64 (q - 1))).f2) ∧ w'.cell? ⟨(ad5.add ((wrap64 (q - 1)).toNat * 4)).block, (ad5.add ((wrap64 (q - 1)).toNat * 4)).off + 3, none⟩ = some (.int .i64 (rd_T69 (impl_RateAt.own l0 a2) (wrap64 (q - 1))).f3)) (ds := []) #[false, false, false, false, false, false, false, false, false, false, false, false, false, false, false] (by kernel_rfl) rfl rfl ⟨HC14, HE2, HE3⟩ (fun hHeld => ?_); refine with_tabW impl_RateAt.tab15 impl_RateAt.bits15 (fun HT_ HW_ => ?_)
                  generalize hw1 : w12.drew = w1 at hHeld ⊢
                  refine take_ (i := 0) (N := some 66) (v := ?_) (a' := ?_) #[true, false, false, false, false, false, false, false, false, false, false, false, false, false, false] rfl rfl (take_ofW HT_.out HW_.out (by kernel_rfl)) (fun _ _ _ h => h) (Or.inl ⟨by rfl, ?_⟩) hHeld ?_ ?_
                  rotate_left
                  · rintro w' ⟨s0, s1, s2⟩
                    go_simp
                    with_reducible rfl
                  rotate_left
                  · simp only [Act.put, List.setIfInBounds_toArray, List.set_cons_zero, List.set_cons_succ, i64_w, i32_w]
                    rfl
                  refine pure_ (i := 1) (N := some 67) (v := ?_) (a' := ?_) #[true, true, false, false, false, false, false, false, false, false, false, false, false, false, false] rfl rfl (any_of HT_.out (by kernel_rfl)) (fun _ _ _ h => h) (Or.inl ⟨by rfl, ?_⟩) ?_ ?_
                  rotate_left
                  · intro w'
                    go_simp
                    with_reducible rfl
                  rotate_left
                  · simp only [Act.put, List.setIfInBounds_toArray, List.set_cons_zero, List.set_cons_succ, i64_w, i32_w]
                    rfl
                  refine pure_ (i := 2) (N := some 68) (v := ?_) (a' := ?_) #[true, true, true, false, false, false, false, false, false, false, false, false, false, false, false] rfl rfl (any_of HT_.out (by kernel_rfl)) (fun _ _ _ h => h) (Or.inl ⟨by rfl, ?_⟩) ?_ ?_
                  rotate_left
                  · intro w'
                    go_simp
                    with_reducible rfl
                  rotate_left
                  · simp only [Act.put, List.setIfInBounds_toArray, List.set_cons_zero, List.set_cons_succ, i64_w, i32_w]
                    rfl
                  refine pure_ (i := 3) (N := some 69) (v := ?_) (a' := ?_) #[true, true, true, true, false, false, false, false, false, false, false, false, false, false, false] rfl rfl (any_of HT_.out (by kernel_rfl)) (fun _ _ _ h => h) (Or.inl ⟨by rfl, ?_⟩) ?_ ?_
                  rotate_left
                  · intro w'
                    go_simp
                    with_reducible rfl
                  rotate_left
                  · simp only [Act.put, List.setIfInBounds_toArray, List.set_cons_zero, List.set_cons_succ, i64_w, i32_w]
                    rfl
                  refine pure_ (i := 4) (N := some 70) (v := ?_) (a' := ?_) #[true, true, true, true, true, false, false, false, false, false, false, false, false, false, false] rfl rfl (any_of HT_.out (by kernel_rfl)) (fun _ _ _ h => h) (Or.inl ⟨by rfl, ?_⟩) ?_ ?_
                  rotate_left
                  · intro w'
                    go_simp
                    with_reducible rfl
                  rotate_left
                  · simp only [Act.put, List.setIfInBounds_toArray, List.set_cons_zero, List.set_cons_succ, i64_w, i32_w]
                    rfl
                  refine take_ (i := 5) (N := some 71) (v := ?_) (a' := ?_) #[true, true, true, true, true, true, false, false, false, false, false, false, false, false, false] rfl rfl (take_ofW HT_.out HW_.out (by kernel_rfl)) (fun _ _ _ h => h) (Or.inl ⟨by rfl, ?_⟩) hHeld ?_ ?_
                  rotate_left
                  · rintro w' ⟨s0, s1, s2⟩
                    go_simp
                    with_reducible rfl
                  rotate_left
                  · simp only [Act.put, List.setIfInBounds_toArray, List.set_cons_zero, List.set_cons_succ, i64_w, i32_w]
                    rfl
                  refine take_ (i := 6) (N := some 72) (v := ?_) (a' := ?_) #[true, true, true, true, true, true, true, false, false, false, false, false, false, false, false] rfl rfl (take_ofW HT_.out HW_.out (by kernel_rfl)) (fun _ _ _ h => h) (Or.inl ⟨by rfl, ?_⟩) hHeld ?_ ?_
                  rotate_left
                  · rintro w' ⟨s0, s1, s2⟩
                    go_simp
                    with_reducible rfl
                  rotate_left
                  · simp only [Act.put, List.setIfInBounds_toArray, List.set_cons_zero, List.set_cons_succ, i64_w, i32_w]
                    rfl
                  refine pure_ (i := 7) (N := some 73) (v := ?_) (a' := ?_) #[true, true, true, true, true, true, true, true, false, false, false, false, false, false, false] rfl rfl (any_of HT_.out (by kernel_rfl)) (fun _ _ _ h => h) (Or.inl ⟨by rfl, ?_⟩) ?_ ?_
                  rotate_left
                  · intro w'
                    go_simp
                    with_reducible rfl
                  rotate_left
                  · simp only [Act.put, List.setIfInBounds_toArray, List.set_cons_zero, List.set_cons_succ, i64_w, i32_w]
                    rfl
                  refine pure_ (i := 8) (N := some 74) (v := ?_) (a' := ?_) #[true, true, true, true, true, true, true, true, true, false, false, false, false, false, false] rfl rfl (any_of HT_.out (by kernel_rfl)) (fun _ _ _ h => h) (Or.inl ⟨by rfl, ?_⟩) ?_ ?_
                  rotate_left
                  · intro w'
                    go_simp
                    with_reducible rfl
                  rotate_left
                  · simp only [Act.put, List.setIfInBounds_toArray, List.set_cons_zero, List.set_cons_succ, i64_w, i32_w]
                    rfl
                  refine pure_ (i := 9) (N := some 75) (v := ?_) (a' := ?_) #[true, true, true, true, true, true, true, true, true, true, false, false, false, false, false] rfl rfl (any_of HT_.out (by kernel_rfl)) (fun _ _ _ h => h) (Or.inl ⟨by rfl, ?_⟩) ?_ ?_
                  rotate_left
                  · intro w'
                    go_simp
                    with_reducible rfl
                  rotate_left
                  · simp only [Act.put, List.setIfInBounds_toArray, List.set_cons_zero, List.set_cons_succ, i64_w, i32_w]
                    rfl
                  refine pure_ (i := 10) (N := some 76) (v := ?_) (a' := ?_) #[true, true, true, true, true, true, true, true, true, true, true, false, false, false, false] rfl rfl (any_of HT_.out (by kernel_rfl)) (fun _ _ _ h => h) (Or.inl ⟨by rfl, ?_⟩) ?_ ?_
                  rotate_left
                  · intro w'
                    go_simp
                    with_reducible rfl
                  rotate_left
                  · simp only [Act.put, List.setIfInBounds_toArray, List.set_cons_zero, List.set_cons_succ, i64_w, i32_w]
                    rfl
                  refine take_ (i := 11) (N := some 77) (v := ?_) (a' := ?_) #[true, true, true, true, true, true, true, true, true, true, true, true, false, false, false] rfl rfl (take_ofW HT_.out HW_.out (by kernel_rfl)) (fun _ _ _ h => h) (Or.inl ⟨by rfl, ?_⟩) hHeld ?_ ?_
                  rotate_left
                  · rintro w' ⟨s0, s1, s2⟩
                    go_simp
                    with_reducible rfl
                  rotate_left
                  · simp only [Act.put, List.setIfInBounds_toArray, List.set_cons_zero, List.set_cons_succ, i64_w, i32_w]
                    rfl
                  refine pure_ (i := 12) (N := some 8) (v := ?_) (a' := ?_) #[true, true, true, true, true, true, true, true, true, true, true, true, true, false, false] rfl rfl (any_of HT_.out (by kernel_rfl)) (fun _ _ _ h => h) (Or.inl ⟨by rfl, ?_⟩) ?_ ?_
                  rotate_left
                  · intro w'
                    go_simp
                    with_reducible rfl
                  rotate_left
                  · simp only [Act.put, List.setIfInBounds_toArray, List.set_cons_zero, List.set_cons_succ, i64_w, i32_w]
                    rfl
                  refine pure_ (i := 13) (N := some 9) (v := ?_) (a' := ?_) #[true, true, true, true, true, true, true, true, true, true, true, true, true, true, false] rfl rfl (any_of HT_.out (by kernel_rfl)) (fun _ _ _ h => h) (Or.inl ⟨by rfl, ?_⟩) ?_ ?_
                  rotate_left
                  · intro w'
                    go_simp
                    with_reducible rfl
                  rotate_left
                  · simp only [Act.put, List.setIfInBounds_toArray, List.set_cons_zero, List.set_cons_succ, i64_w, i32_w]
                    rfl
                  refine pure_ (i := 14) (N := some 10) (v := ?_) (a' := ?_) #[true, true, true, true, true, true, true, true, true, true, true, true, true, true, true] rfl rfl (any_of HT_.out (by kernel_rfl)) (fun _ _ _ h => h) (Or.inl ⟨by rfl, ?_⟩) ?_ ?_
                  rotate_left
                  · intro w'
                    go_simp
                    with_reducible rfl
                  rotate_left
                  · simp only [Act.put, List.setIfInBounds_toArray, List.set_cons_zero, List.set_cons_succ, i64_w, i32_w]
                    rfl
                  refine done_ (done_of HT_.out (by kernel_rfl)) ?_
                  go_wp2
                  (try simp only [Exit.inBlock, Exit.then]); refine bodyPost_ret (results_tmp3 rfl _ _ _) rfl ?_
                  exact ⟨rfl, hw1 ▸ below_drew HWZ.out⟩
                · rw [if_neg hi1] at h; cases h
              · rw [if_neg hi0] at h; cases h
theorem impl_firstNot.mono : ∀ (k : Nat) (own : List S69) (day low n : Int), LeO (impl_firstNot.l0 k own day low n) (impl_firstNot.l0 (k + 1) own day low n) := by
  intro k
  induction k with
  | zero => intro own day low n r h; simp [impl_firstNot.l0] at h
  | succ k ih =>
    intro own day low n
    unfold impl_firstNot.l0
    repeat' first
    | exact ih _ _ _ _
    | exact LeO.refl _
    | exact LeO.none _
    | refine LeO.ite ?_ ?_
theorem impl_RateAt.mono : ∀ a0 a1 a2 a3 k, LeO (impl_RateAt.f k a0 a1 a2 a3) (impl_RateAt.f (k + 1) a0 a1 a2 a3) := by
  intro a0 a1 a2 a3 k
  unfold impl_RateAt.f impl_RateAt.ok impl_RateAt.pick
  repeat' first
  | exact impl_RatesOk.mono _ _ _
  | exact impl_firstNot.mono _ _ _ _ _
  | exact LeO.refl _
  | exact LeO.none _
  | refine LeO.ite ?_ ?_
  | refine LeO.bind ?_ (fun _ => ?_)
end

/-! ### laws_eqRate: function 48 -/
def laws_eqRate.f (a0_0 : Int) (a0_1 : Int) (a0_2 : Int) (a0_3 : Int) (a1_0 : Int) (a1_1 : Int) (a1_2 : Int) (a1_3 : Int) : Option (Bool) := if a0_0 = a1_0 then (if a0_1 = a1_1 then (if a0_2 = a1_2 then (if a0_3 = a1_3 then (some true) else (some false)) else (some false)) else (some false)) else (some false)
set_option maxHeartbeats 8000000 in
set_option maxRecDepth 100000 in
theorem laws_eqRate.calls (a0_0 : Int) (a0_1 : Int) (a0_2 : Int) (a0_3 : Int) (a1_0 : Int) (a1_1 : Int) (a1_2 : Int) (a1_3 : Int) (r : Bool) (w : World) (h : laws_eqRate.f a0_0 a0_1 a0_2 a0_3 a1_0 a1_1 a1_2 a1_3 = some r) :
    Calls Try.prog 48 #[.agg #[.int .i64 a0_0, .int .i64 a0_1, .int .i64 a0_2, .int .i64 a0_3], .agg #[.int .i64 a1_0, .int .i64 a1_1, .int .i64 a1_2, .int .i64 a1_3]] w fun e w' => e = .returned (.bool r) ∧ Below w.heap.size w w' := by
  have hu69 := Try.underlying69
  have HB := Aside0.mk (Below.refl w.heap.size w)
  have H : (if a0_0 = a1_0 then (if a0_1 = a1_1 then (if a0_2 = a1_2 then (if a0_3 = a1_3 then (some true) else (some false)) else (some false)) else (some false)) else (some false)) = some r := h
  clear h
  by_cases c3 : a0_0 = a1_0
  · rw [if_pos c3] at H
    have c3b0 : (a0_0 == a1_0) = true := beq_iff_eq.mpr c3
    have c3b1 : (a0_0 != a1_0) = false := bne_eq_false_iff_eq.mpr c3
    clear c3
    by_cases c4 : a0_1 = a1_1
    · rw [if_pos c4] at H
      have c4b0 : (a0_1 == a1_1) = true := beq_iff_eq.mpr c4
      have c4b1 : (a0_1 != a1_1) = false := bne_eq_false_iff_eq.mpr c4
      clear c4
      by_cases c5 : a0_2 = a1_2
      · rw [if_pos c5] at H
        have c5b0 : (a0_2 == a1_2) = true := beq_iff_eq.mpr c5
        have c5b1 : (a0_2 != a1_2) = false := bne_eq_false_iff_eq.mpr c5
        clear c5
        by_cases c6 : a0_3 = a1_3
        · rw [if_pos c6] at H
          have c6b0 : (a0_3 == a1_3) = true := beq_iff_eq.mpr c6
          have c6b1 : (a0_3 != a1_3) = false := bne_eq_false_iff_eq.mpr c6
          clear c6
          obtain rfl := Option.some.inj H
          go_enter Try.func48, Try.ntmps48
          go_wp2_with (first | ((with_reducible refine gate_dst (N := 2) rfl ?_); refine box_event ?hg (N := 2) ?hd (cs := #[.int .i64 a0_0, .int .i64 a0_1, .int .i64 a0_2, .int .i64 a0_3]) (t := 69) ?hr ?_; (case hd => rfl); (case hg => rfl); (case hr => first | (go_simp; done) | (go_simp; rfl)); intro gb142 hg w7 hbox hb; have n0_ := Aside0.mk (below_step (by repeat (first | (with_reducible first | exact HB.out | apply below_alloc | apply pw_below_drewN | apply below_drew1) | exact HB.out)) hb); have n1_ := Aside0.mk (hbox); have n2_ := Aside0.mk ((by rw [hg]; exact (below_size (by repeat (first | (with_reducible first | exact HB.out | apply below_alloc | apply pw_below_drewN | apply below_drew1) | exact HB.out))) : w.heap.size ≤ gb142)); have n3_ := Aside0.mk ((by rw [hg]; exact (below_size (by repeat (first | (with_reducible first | exact HB.out | apply below_alloc | apply pw_below_drewN | apply below_drew1) | exact HB.out))) : w.heap.size ≤ gb142)); clear HB; have HB := n0_; have BK142 := n1_; have GW142 := n2_; have GE142 := n3_; clear n0_ n1_ n2_ n3_; clear hb hbox hg) | ((with_reducible refine gate_dst (N := 3) rfl ?_); refine box_event ?hg (N := 3) ?hd (cs := #[.int .i64 a1_0, .int .i64 a1_1, .int .i64 a1_2, .int .i64 a1_3]) (t := 69) ?hr ?_; (case hd => rfl); (case hg => rfl); (case hr => first | (go_simp; done) | (go_simp; rfl)); intro gb143 hg w8 hbox hb; have n0_ := Aside0.mk (blk_below (g := gb142) (o := .cells #[.int .i64 a0_0, .int .i64 a0_1, .int .i64 a0_2, .int .i64 a0_3] 69 (0, 0)) (by (with_reducible repeat (first | refine blk_drewN ?_ _ | refine blk_drew ?_ | refine blk_alloc ?_ _)); exact BK142.out) hb); have n1_ := Aside0.mk (below_step (by repeat (first | (with_reducible first | exact HB.out | apply below_alloc | apply pw_below_drewN | apply below_drew1 | refine below_set ?_ GE142.out) | exact HB.out)) hb); have n2_ := Aside0.mk (hbox); have n3_ := Aside0.mk ((by rw [hg]; exact (below_size (by repeat (first | (with_reducible first | exact HB.out | apply below_alloc | apply pw_below_drewN | apply below_drew1 | refine below_set ?_ GE142.out) | exact HB.out))) : w.heap.size ≤ gb143)); have n4_ := Aside0.mk ((by rw [hg]; exact (below_size (by repeat (first | (with_reducible first | exact HB.out | apply below_alloc | apply pw_below_drewN | apply below_drew1 | refine below_set ?_ GE142.out) | exact HB.out))) : w.heap.size ≤ gb143)); have n5_ := Aside0.mk ((by rw [hg]; exact Nat.ne_of_lt (blk_lt (g := gb142) (o := .cells #[.int .i64 a0_0, .int .i64 a0_1, .int .i64 a0_2, .int .i64 a0_3] 69 (0, 0)) (by (with_reducible repeat (first | refine blk_drewN ?_ _ | refine blk_drew ?_ | refine blk_alloc ?_ _)); exact BK142.out)) : gb142 ≠ gb143)); have n6_ := Aside0.mk ((by rw [hg]; exact Nat.ne_of_gt (blk_lt (g := gb142) (o := .cells #[.int .i64 a0_0, .int .i64 a0_1, .int .i64 a0_2, .int .i64 a0_3] 69 (0, 0)) (by (with_reducible repeat (first | refine blk_drewN ?_ _ | refine blk_drew ?_ | refine blk_alloc ?_ _)); exact BK142.out)) : gb143 ≠ gb142)); clear BK142; clear HB; have BK142 := n0_; have HB := n1_; have BK143 := n2_; have GW143 := n3_; have GE143 := n4_; have NB142_143 := n5_; have NB143_142 := n6_; clear n0_ n1_ n2_ n3_ n4_ n5_ n6_; clear hb hbox hg; have hnb9 := NB142_143.out; have hnc9 := NB143_142.out; have hcz10_0 : w8.cell? ⟨gb142, 0, none⟩ = some (.int .i64 a0_0) := (blk_cell BK142.out 0).trans rfl; have hcz10_1 : w8.cell? ⟨gb142, 1, none⟩ = some (.int .i64 a0_1) := (blk_cell BK142.out 1).trans rfl; have hcz10_2 : w8.cell? ⟨gb142, 2, none⟩ = some (.int .i64 a0_2) := (blk_cell BK142.out 2).trans rfl; have hcz10_3 : w8.cell? ⟨gb142, 3, none⟩ = some (.int .i64 a0_3) := (blk_cell BK142.out 3).trans rfl; have hfz10_0 := blk_frozen BK142.out 0; have hfz10_1 := blk_frozen BK142.out 1; have hfz10_2 := blk_frozen BK142.out 2; have hfz10_3 := blk_frozen BK142.out 3; have hcz11_0 : w8.cell? ⟨gb143, 0, none⟩ = some (.int .i64 a1_0) := (blk_cell BK143.out 0).trans rfl; have hcz11_1 : w8.cell? ⟨gb143, 1, none⟩ = some (.int .i64 a1_1) := (blk_cell BK143.out 1).trans rfl; have hcz11_2 : w8.cell? ⟨gb143, 2, none⟩ = some (.int .i64 a1_2) := (blk_cell BK143.out 2).trans rfl; have hcz11_3 : w8.cell? ⟨gb143, 3, none⟩ = some (.int .i64 a1_3) := (blk_cell BK143.out 3).trans rfl; have hfz11_0 := blk_frozen BK143.out 0; have hfz11_1 := blk_frozen BK143.out 1; have hfz11_2 := blk_frozen BK143.out 2; have hfz11_3 := blk_frozen BK143.out 3))
          go_ret
          exact ⟨by first | rfl | (simp [errW_none, errW_some] <;> rfl) | (simp [*, errW_none, errW_some] <;> rfl), by repeat (first | (with_reducible first | exact HB.out | apply below_alloc | apply pw_below_drewN | apply below_drew1 | refine below_set ?_ GE142.out | refine below_set ?_ GE143.out) | exact HB.out)⟩
        · rw [if_neg c6] at H
          have c6b0 : (a0_3 == a1_3) = false := beq_eq_false_iff_ne.mpr c6
          have c6b1 : (a0_3 != a1_3) = true := bne_iff_ne.mpr c6
          obtain rfl := Option.some.inj H
          go_enter Try.func48, Try.ntmps48
          go_wp2_with (first | ((with_reducible refine gate_dst (N := 2) rfl ?_); refine box_event ?hg (N := 2) ?hd (cs := #[.int .i64 a0_0, .int .i64 a0_1, .int .i64 a0_2, .int .i64 a0_3]) (t := 69) ?hr ?_; (case hd => rfl); (case hg => rfl); (case hr => first | (go_simp; done) | (go_simp; rfl)); intro gb142 hg w12 hbox hb; have n0_ := Aside0.mk (below_step (by repeat (first | (with_reducible first | exact HB.out | apply below_alloc | apply pw_below_drewN | apply below_drew1) | exact HB.out)) hb); have n1_ := Aside0.mk (hbox); have n2_ := Aside0.mk ((by rw [hg]; exact (below_size (by repeat (first | (with_reducible first | exact HB.out | apply below_alloc | apply pw_below_drewN | apply below_drew1) | exact HB.out))) : w.heap.size ≤ gb142)); have n3_ := Aside0.mk ((by rw [hg]; exact (below_size (by repeat (first | (with_reducible first | exact HB.out | apply below_alloc | apply pw_below_drewN | apply below_drew1) | exact HB.out))) : w.heap.size ≤ gb142)); clear HB; have HB := n0_; have BK142 := n1_; have GW142 := n2_; have GE142 := n3_; clear n0_ n1_ n2_ n3_; clear hb hbox hg) | ((with_reducible refine gate_dst (N := 3) rfl ?_); refine box_event ?hg (N := 3) ?hd (cs := #[.int .i64 a1_0, .int .i64 a1_1, .int .i64 a1_2, .int .i64 a1_3]) (t := 69) ?hr ?_; (case hd => rfl); (case hg => rfl); (case hr => first | (go_simp; done) | (go_simp; rfl)); intro gb143 hg w13 hbox hb; have n0_ := Aside0.mk (blk_below (g := gb142) (o := .cells #[.int .i64 a0_0, .int .i64 a0_1, .int .i64 a0_2, .int .i64 a0_3] 69 (0, 0)) (by (with_reducible repeat (first | refine blk_drewN ?_ _ | refine blk_drew ?_ | refine blk_alloc ?_ _)); exact BK142.out) hb); have n1_ := Aside0.mk (below_step (by repeat (first | (with_reducible first | exact HB.out | apply below_alloc | apply pw_below_drewN | apply below_drew1 | refine below_set ?_ GE142.out) | exact HB.out)) hb); have n2_ := Aside0.mk (hbox); have n3_ := Aside0.mk ((by rw [hg]; exact (below_size (by repeat (first | (with_reducible first | exact HB.out | apply below_alloc | apply pw_below_drewN | apply below_drew1 | refine below_set ?_ GE142.out) | exact HB.out))) : w.heap.size ≤ gb143)); have n4_ := Aside0.mk ((by rw [hg]; exact (below_size (by repeat (first | (with_reducible first | exact HB.out | apply below_alloc | apply pw_below_drewN | apply below_drew1 | refine below_set ?_ GE142.out) | exact HB.out))) : w.heap.size ≤ gb143)); have n5_ := Aside0.mk ((by rw [hg]; exact Nat.ne_of_lt (blk_lt (g := gb142) (o := .cells #[.int .i64 a0_0, .int .i64 a0_1, .int .i64 a0_2, .int .i64 a0_3] 69 (0, 0)) (by (with_reducible repeat (first | refine blk_drewN ?_ _ | refine blk_drew ?_ | refine blk_alloc ?_ _)); exact BK142.out)) : gb142 ≠ gb143)); have n6_ := Aside0.mk ((by rw [hg]; exact Nat.ne_of_gt (blk_lt (g := gb142) (o := .cells #[.int .i64 a0_0, .int .i64 a0_1, .int .i64 a0_2, .int .i64 a0_3] 69 (0, 0)) (by (with_reducible repeat (first | refine blk_drewN ?_ _ | refine blk_drew ?_ | refine blk_alloc ?_ _)); exact BK142.out)) : gb143 ≠ gb142)); clear BK142; clear HB; have BK142 := n0_; have HB := n1_; have BK143 := n2_; have GW143 := n3_; have GE143 := n4_; have NB142_143 := n5_; have NB143_142 := n6_; clear n0_ n1_ n2_ n3_ n4_ n5_ n6_; clear hb hbox hg; have hnb14 := NB142_143.out; have hnc14 := NB143_142.out; have hcz15_0 : w13.cell? ⟨gb142, 0, none⟩ = some (.int .i64 a0_0) := (blk_cell BK142.out 0).trans rfl; have hcz15_1 : w13.cell? ⟨gb142, 1, none⟩ = some (.int .i64 a0_1) := (blk_cell BK142.out 1).trans rfl; have hcz15_2 : w13.cell? ⟨gb142, 2, none⟩ = some (.int .i64 a0_2) := (blk_cell BK142.out 2).trans rfl; have hcz15_3 : w13.cell? ⟨gb142, 3, none⟩ = some (.int .i64 a0_3) := (blk_cell BK142.out 3).trans rfl; have hfz15_0 := blk_frozen BK142.out 0; have hfz15_1 := blk_frozen BK142.out 1; have hfz15_2 := blk_frozen BK142.out 2; have hfz15_3 := blk_frozen BK142.out 3; have hcz16_0 : w13.cell? ⟨gb143, 0, none⟩ = some (.int .i64 a1_0) := (blk_cell BK143.out 0).trans rfl; have hcz16_1 : w13.cell? ⟨gb143, 1, none⟩ = some (.int .i64 a1_1) := (blk_cell BK143.out 1).trans rfl; have hcz16_2 : w13.cell? ⟨gb143, 2, none⟩ = some (.int .i64 a1_2) := (blk_cell BK143.out 2).trans rfl; have hcz16_3 : w13.cell? ⟨gb143, 3, none⟩ = some (.int .i64 a1_3) := (blk_cell BK143.out 3).trans rfl; have hfz16_0 := blk_frozen BK143.out 0; have hfz16_1 := blk_frozen BK143.out 1; have hfz16_2 := blk_frozen BK143.out 2; have hfz16_3 := blk_frozen BK143.out 3))
          go_ret
          exact ⟨by first | rfl | (simp [errW_none, errW_some] <;> rfl) | (simp [*, errW_none, errW_some] <;> rfl), by repeat (first | (with_reducible first | exact HB.out | apply below_alloc | apply pw_below_drewN | apply below_drew1 | refine below_set ?_ GE142.out | refine below_set ?_ GE143.out) | exact HB.out)⟩
      · rw [if_neg c5] at H
        have c5b0 : (a0_2 == a1_2) = false := beq_eq_false_iff_ne.mpr c5
        have c5b1 : (a0_2 != a1_2) = true := bne_iff_ne.mpr c5
        obtain rfl := Option.some.inj H
        go_enter Try.func48, Try.ntmps48
        go_wp2_with (first | ((with_reducible refine gate_dst (N := 2) rfl ?_); refine box_event ?hg (N := 2) ?hd (cs := #[.int .i64 a0_0, .int .i64 a0_1, .int .i64 a0_2, .int .i64 a0_3]) (t := 69) ?hr ?_; (case hd => rfl); (case hg => rfl); (case hr => first | (go_simp; done) | (go_simp; rfl)); intro gb142 hg w17 hbox hb; have n0_ := Aside0.mk (below_step (by repeat (first | (with_reducible first | exact HB.out | apply below_alloc | apply pw_below_drewN | apply below_drew1) | exact HB.out)) hb); have n1_ := Aside0.mk (hbox); have n2_ := Aside0.mk ((by rw [hg]; exact (below_size (by repeat (first | (with_reducible first | exact HB.out | apply below_alloc | apply pw_below_drewN | apply below_drew1) | exact HB.out))) : w.heap.size ≤ gb142)); have n3_ := Aside0.mk ((by rw [hg]; exact (below_size (by repeat (first | (with_reducible first | exact HB.out | apply below_alloc | apply pw_below_drewN | apply below_drew1) | exact HB.out))) : w.heap.size ≤ gb142)); clear HB; have HB := n0_; have BK142 := n1_; have GW142 := n2_; have GE142 := n3_; clear n0_ n1_ n2_ n3_; clear hb hbox hg) | ((with_reducible refine gate_dst (N := 3) rfl ?_); refine box_event ?hg (N := 3) ?hd (cs := #[.int .i64 a1_0, .int .i64 a1_1, .int .i64 a1_2, .int .i64 a1_3]) (t := 69) ?hr ?_; (case hd => rfl); (case hg => rfl); (case hr => first | (go_simp; done) | (go_simp; rfl)); intro gb143 hg w18 hbox hb; have n0_ := Aside0.mk (blk_below (g := gb142) (o := .cells #[.int .i64 a0_0, .int .i64 a0_1, .int .i64 a0_2, .int .i64 a0_3] 69 (0, 0)) (by (with_reducible repeat (first | refine blk_drewN ?_ _ | refine blk_drew ?_ | refine blk_alloc ?_ _)); exact BK142.out) hb); have n1_ := Aside0.mk (below_step (by repeat (first | (with_reducible first | exact HB.out | apply below_alloc | apply pw_below_drewN | apply below_drew1 | refine below_set ?_ GE142.out) | exact HB.out)) hb); have n2_ := Aside0.mk (hbox); have n3_ := Aside0.mk ((by rw [hg]; exact (below_size (by repeat (first | (with_reducible first | exact HB.out | apply below_alloc | apply pw_below_drewN | apply below_drew1 | refine below_set ?_ GE142.out) | exact HB.out))) : w.heap.size ≤ gb143)); have n4_ := Aside0.mk ((by rw [hg]; exact (below_size (by repeat (first | (with_reducible first | exact HB.out | apply below_alloc | apply pw_below_drewN | apply below_drew1 | refine below_set ?_ GE142.out) | exact HB.out))) : w.heap.size ≤ gb143)); have n5_ := Aside0.mk ((by rw [hg]; exact Nat.ne_of_lt (blk_lt (g := gb142) (o := .cells #[.int .i64 a0_0, .int .i64 a0_1, .int .i64 a0_2, .int .i64 a0_3] 69 (0, 0)) (by (with_reducible repeat (first | refine blk_drewN ?_ _ | refine blk_drew ?_ | refine blk_alloc ?_ _)); exact BK142.out)) : gb142 ≠ gb143)); have n6_ := Aside0.mk ((by rw [hg]; exact Nat.ne_of_gt (blk_lt (g := gb142) (o := .cells #[.int .i64 a0_0, .int .i64 a0_1, .int .i64 a0_2, .int .i64 a0_3] 69 (0, 0)) (by (with_reducible repeat (first | refine blk_drewN ?_ _ | refine blk_drew ?_ | refine blk_alloc ?_ _)); exact BK142.out)) : gb143 ≠ gb142)); clear BK142; clear HB; have BK142 := n0_; have HB := n1_; have BK143 := n2_; have GW143 := n3_; have GE143 := n4_; have NB142_143 := n5_; have NB143_142 := n6_; clear n0_ n1_ n2_ n3_ n4_ n5_ n6_; clear hb hbox hg; have hnb19 := NB142_143.out; have hnc19 := NB143_142.out; have hcz20_0 : w18.cell? ⟨gb142, 0, none⟩ = some (.int .i64 a0_0) := (blk_cell BK142.out 0).trans rfl; have hcz20_1 : w18.cell? ⟨gb142, 1, none⟩ = some (.int .i64 a0_1) := (blk_cell BK142.out 1).trans rfl; have hcz20_2 : w18.cell? ⟨gb142, 2, none⟩ = some (.int .i64 a0_2) := (blk_cell BK142.out 2).trans rfl; have hcz20_3 : w18.cell? ⟨gb142, 3, none⟩ = some (.int .i64 a0_3) := (blk_cell BK142.out 3).trans rfl; have hfz20_0 := blk_frozen BK142.out 0; have hfz20_1 := blk_frozen BK142.out 1; have hfz20_2 := blk_frozen BK142.out 2; have hfz20_3 := blk_frozen BK142.out 3; have hcz21_0 : w18.cell? ⟨gb143, 0, none⟩ = some (.int .i64 a1_0) := (blk_cell BK143.out 0).trans rfl; have hcz21_1 : w18.cell? ⟨gb143, 1, none⟩ = some (.int .i64 a1_1) := (blk_cell BK143.out 1).trans rfl; have hcz21_2 : w18.cell? ⟨gb143, 2, none⟩ = some (.int .i64 a1_2) := (blk_cell BK143.out 2).trans rfl; have hcz21_3 : w18.cell? ⟨gb143, 3, none⟩ = some (.int .i64 a1_3) := (blk_cell BK143.out 3).trans rfl; have hfz21_0 := blk_frozen BK143.out 0; have hfz21_1 := blk_frozen BK143.out 1; have hfz21_2 := blk_frozen BK143.out 2; have hfz21_3 := blk_frozen BK143.out 3))
        go_ret
        exact ⟨by first | rfl | (simp [errW_none, errW_some] <;> rfl) | (simp [*, errW_none, errW_some] <;> rfl), by repeat (first | (with_reducible first | exact HB.out | apply below_alloc | apply pw_below_drewN | apply below_drew1 | refine below_set ?_ GE142.out | refine below_set ?_ GE143.out) | exact HB.out)⟩
    · rw [if_neg c4] at H
      have c4b0 : (a0_1 == a1_1) = false := beq_eq_false_iff_ne.mpr c4
      have c4b1 : (a0_1 != a1_1) = true := bne_iff_ne.mpr c4
      obtain rfl := Option.some.inj H
      go_enter Try.func48, Try.ntmps48
      go_wp2_with (first | ((with_reducible refine gate_dst (N := 2) rfl ?_); refine box_event ?hg (N := 2) ?hd (cs := #[.int .i64 a0_0, .int .i64 a0_1, .int .i64 a0_2, .int .i64 a0_3]) (t := 69) ?hr ?_; (case hd => rfl); (case hg => rfl); (case hr => first | (go_simp; done) | (go_simp; rfl)); intro gb142 hg w22 hbox hb; have n0_ := Aside0.mk (below_step (by repeat (first | (with_reducible first | exact HB.out | apply below_alloc | apply pw_below_drewN | apply below_drew1) | exact HB.out)) hb); have n1_ := Aside0.mk (hbox); have n2_ := Aside0.mk ((by rw [hg]; exact (below_size (by repeat (first | (with_reducible first | exact HB.out | apply below_alloc | apply pw_below_drewN | apply below_drew1) | exact HB.out))) : w.heap.size ≤ gb142)); have n3_ := Aside0.mk ((by rw [hg]; exact (below_size (by repeat (first | (with_reducible first | exact HB.out | apply below_alloc | apply pw_below_drewN | apply below_drew1) | exact HB.out))) : w.heap.size ≤ gb142)); clear HB; have HB := n0_; have BK142 := n1_; have GW142 := n2_; have GE142 := n3_; clear n0_ n1_ n2_ n3_; clear hb hbox hg) | ((with_reducible refine gate_dst (N := 3) rfl ?_); refine box_event ?hg (N := 3) ?hd (cs := #[.int .i64 a1_0, .int .i64 a1_1, .int .i64 a1_2, .int .i64 a1_3]) (t := 69) ?hr ?_; (case hd => rfl); (case hg => rfl); (case hr => first | (go_simp; done) | (go_simp; rfl)); intro gb143 hg w23 hbox hb; have n0_ := Aside0.mk (blk_below (g := gb142) (o := .cells #[.int .i64 a0_0, .int .i64 a0_1, .int .i64 a0_2, .int .i64 a0_3] 69 (0, 0)) (by (with_reducible repeat (first | refine blk_drewN ?_ _ | refine blk_drew ?_ | refine blk_alloc ?_ _)); exact BK142.out) hb); have n1_ := Aside0.mk (below_step (by repeat (first | (with_reducible first | exact HB.out | apply below_alloc | apply pw_below_drewN | apply below_drew1 | refine below_set ?_ GE142.out) | exact HB.out)) hb); have n2_ := Aside0.mk (hbox); have n3_ := Aside0.mk ((by rw [hg]; exact (below_size (by repeat (first | (with_reducible first | exact HB.out | apply below_alloc | apply pw_below_drewN | apply below_drew1 | refine below_set ?_ GE142.out) | exact HB.out))) : w.heap.size ≤ gb143)); have n4_ := Aside0.mk ((by rw [hg]; exact (below_size (by repeat (first | (with_reducible first | exact HB.out | apply below_alloc | apply pw_below_drewN | apply below_drew1 | refine below_set ?_ GE142.out) | exact HB.out))) : w.heap.size ≤ gb143)); have n5_ := Aside0.mk ((by rw [hg]; exact Nat.ne_of_lt (blk_lt (g := gb142) (o := .cells #[.int .i64 a0_0, .int .i64 a0_1, .int .i64 a0_2, .int .i64 a0_3] 69 (0, 0)) (by (with_reducible repeat (first | refine blk_drewN ?_ _ | refine blk_drew ?_ | refine blk_alloc ?_ _)); exact BK142.out)) : gb142 ≠ gb143)); have n6_ := Aside0.mk ((by rw [hg]; exact Nat.ne_of_gt (blk_lt (g := gb142) (o := .cells #[.int .i64 a0_0, .int .i64 a0_1, .int .i64 a0_2, .int .i64 a0_3] 69 (0, 0)) (by (with_reducible repeat (first | refine blk_drewN ?_ _ | refine blk_drew ?_ | refine blk_alloc ?_ _)); exact BK142.out)) : gb143 ≠ gb142)); clear BK142; clear HB; have BK142 := n0_; have HB := n1_; have BK143 := n2_; have GW143 := n3_; have GE143 := n4_; have NB142_143 := n5_; have NB143_142 := n6_; clear n0_ n1_ n2_ n3_ n4_ n5_ n6_; clear hb hbox hg; have hnb24 := NB142_143.out; have hnc24 := NB143_142.out; have hcz25_0 : w23.cell? ⟨gb142, 0, none⟩ = some (.int .i64 a0_0) := (blk_cell BK142.out 0).trans rfl; have hcz25_1 : w23.cell? ⟨gb142, 1, none⟩ = some (.int .i64 a0_1) := (blk_cell BK142.out 1).trans rfl; have hcz25_2 : w23.cell? ⟨gb142, 2, none⟩ = some (.int .i64 a0_2) := (blk_cell BK142.out 2).trans rfl; have hcz25_3 : w23.cell? ⟨gb142, 3, none⟩ = some (.int .i64 a0_3) := (blk_cell BK142.out 3).trans rfl; have hfz25_0 := blk_frozen BK142.out 0; have hfz25_1 := blk_frozen BK142.out 1; have hfz25_2 := blk_frozen BK142.out 2; have hfz25_3 := blk_frozen BK142.out 3; have hcz26_0 : w23.cell? ⟨gb143, 0, none⟩ = some (.int .i64 a1_0) := (blk_cell BK143.out 0).trans rfl; have hcz26_1 : w23.cell? ⟨gb143, 1, none⟩ = some (.int .i64 a1_1) := (blk_cell BK143.out 1).trans rfl; have hcz26_2 : w23.cell? ⟨gb143, 2, none⟩ = some (.int .i64 a1_2) := (blk_cell BK143.out 2).trans rfl; have hcz26_3 : w23.cell? ⟨gb143, 3, none⟩ = some (.int .i64 a1_3) := (blk_cell BK143.out 3).trans rfl; have hfz26_0 := blk_frozen BK143.out 0; have hfz26_1 := blk_frozen BK143.out 1; have hfz26_2 := blk_frozen BK143.out 2; have hfz26_3 := blk_frozen BK143.out 3))
      go_ret
      exact ⟨by first | rfl | (simp [errW_none, errW_some] <;> rfl) | (simp [*, errW_none, errW_some] <;> rfl), by repeat (first | (with_reducible first | exact HB.out | apply below_alloc | apply pw_below_drewN | apply below_drew1 | refine below_set ?_ GE142.out | refine below_set ?_ GE143.out) | exact HB.out)⟩
  · rw [if_neg c3] at H
    have c3b0 : (a0_0 == a1_0) = false := beq_eq_false_iff_ne.mpr c3
    have c3b1 : (a0_0 != a1_0) = true := bne_iff_ne.mpr c3
    obtain rfl := Option.some.inj H
    go_enter Try.func48, Try.ntmps48
    go_wp2_with (first | ((with_reducible refine gate_dst (N := 2) rfl ?_); refine box_event ?hg (N := 2) ?hd (cs := #[.int .i64 a0_0, .int .i64 a0_1, .int .i64 a0_2, .int .i64 a0_3]) (t := 69) ?hr ?_; (case hd => rfl); (case hg => rfl); (case hr => first | (go_simp; done) | (go_simp; rfl)); intro gb142 hg w27 hbox hb; have n0_ := Aside0.mk (below_step (by repeat (first | (with_reducible first | exact HB.out | apply below_alloc | apply pw_below_drewN | apply below_drew1) | exact HB.out)) hb); have n1_ := Aside0.mk (hbox); have n2_ := Aside0.mk ((by rw [hg]; exact (below_size (by repeat (first | (with_reducible first | exact HB.out | apply below_alloc | apply pw_below_drewN | apply below_drew1) | exact HB.out))) : w.heap.size ≤ gb142)); have n3_ := Aside0.mk ((by rw [hg]; exact (below_size (by repeat (first | (with_reducible first | exact HB.out | apply below_alloc | apply pw_below_drewN | apply below_drew1) | exact HB.out))) : w.heap.size ≤ gb142)); clear HB; have HB := n0_; have BK142 := n1_; have GW142 := n2_; have GE142 := n3_; clear n0_ n1_ n2_ n3_; clear hb hbox hg) | ((with_reducible refine gate_dst (N := 3) rfl ?_); refine box_event ?hg (N := 3) ?hd (cs := #[.int .i64 a1_0, .int .i64 a1_1, .int .i64 a1_2, .int .i64 a1_3]) (t := 69) ?hr ?_; (case hd => rfl); (case hg => rfl); (case hr => first | (go_simp; done) | (go_simp; rfl)); intro gb143 hg w28 hbox hb; have n0_ := Aside0.mk (blk_below (g := gb142) (o := .cells #[.int .i64 a0_0, .int .i64 a0_1, .int .i64 a0_2, .int .i64 a0_3] 69 (0, 0)) (by (with_reducible repeat (first | refine blk_drewN ?_ _ | refine blk_drew ?_ | refine blk_alloc ?_ _)); exact BK142.out) hb); have n1_ := Aside0.mk (below_step (by repeat (first | (with_reducible first | exact HB.out | apply below_alloc | apply pw_below_drewN | apply below_drew1 | refine below_set ?_ GE142.out) | exact HB.out)) hb); have n2_ := Aside0.mk (hbox); have n3_ := Aside0.mk ((by rw [hg]; exact (below_size (by repeat (first | (with_reducible first | exact HB.out | apply below_alloc | apply pw_below_drewN | apply below_drew1 | refine below_set ?_ GE142.out) | exact HB.out))) : w.heap.size ≤ gb143)); have n4_ := Aside0.mk ((by rw [hg]; exact (below_size (by repeat (first | (with_reducible first | exact HB.out | apply below_alloc | apply pw_below_drewN | apply below_drew1 | refine below_set ?_ GE142.out) | exact HB.out))) : w.heap.size ≤ gb143)); have n5_ := Aside0.mk ((by rw [hg]; exact Nat.ne_of_lt (blk_lt (g := gb142) (o := .cells #[.int .i64 a0_0, .int .i64 a0_1, .int .i64 a0_2, .int .i64 a0_3] 69 (0, 0)) (by (with_reducible repeat (first | refine blk_drewN ?_ _ | refine blk_drew ?_ | refine blk_alloc ?_ _)); exact BK142.out)) : gb142 ≠ gb143)); have n6_ := Aside0.mk ((by rw [hg]; exact Nat.ne_of_gt (blk_lt (g := gb142) (o := .cells #[.int .i64 a0_0, .int .i64 a0_1, .int .i64 a0_2, .int .i64 a0_3] 69 (0, 0)) (by (with_reducible repeat (first | refine blk_drewN ?_ _ | refine blk_drew ?_ | refine blk_alloc ?_ _)); exact BK142.out)) : gb143 ≠ gb142)); clear BK142; clear HB; have BK142 := n0_; have HB := n1_; have BK143 := n2_; have GW143 := n3_; have GE143 := n4_; have NB142_143 := n5_; have NB143_142 := n6_; clear n0_ n1_ n2_ n3_ n4_ n5_ n6_; clear hb hbox hg; have hnb29 := NB142_143.out; have hnc29 := NB143_142.out; have hcz30_0 : w28.cell? ⟨gb142, 0, none⟩ = some (.int .i64 a0_0) := (blk_cell BK142.out 0).trans rfl; have hcz30_1 : w28.cell? ⟨gb142, 1, none⟩ = some (.int .i64 a0_1) := (blk_cell BK142.out 1).trans rfl; have hcz30_2 : w28.cell? ⟨gb142, 2, none⟩ = some (.int .i64 a0_2) := (blk_cell BK142.out 2).trans rfl; have hcz30_3 : w28.cell? ⟨gb142, 3, none⟩ = some (.int .i64 a0_3) := (blk_cell BK142.out 3).trans rfl; have hfz30_0 := blk_frozen BK142.out 0; have hfz30_1 := blk_frozen BK142.out 1; have hfz30_2 := blk_frozen BK142.out 2; have hfz30_3 := blk_frozen BK142.out 3; have hcz31_0 : w28.cell? ⟨gb143, 0, none⟩ = some (.int .i64 a1_0) := (blk_cell BK143.out 0).trans rfl; have hcz31_1 : w28.cell? ⟨gb143, 1, none⟩ = some (.int .i64 a1_1) := (blk_cell BK143.out 1).trans rfl; have hcz31_2 : w28.cell? ⟨gb143, 2, none⟩ = some (.int .i64 a1_2) := (blk_cell BK143.out 2).trans rfl; have hcz31_3 : w28.cell? ⟨gb143, 3, none⟩ = some (.int .i64 a1_3) := (blk_cell BK143.out 3).trans rfl; have hfz31_0 := blk_frozen BK143.out 0; have hfz31_1 := blk_frozen BK143.out 1; have hfz31_2 := blk_frozen BK143.out 2; have hfz31_3 := blk_frozen BK143.out 3))
    go_ret
    exact ⟨by first | rfl | (simp [errW_none, errW_some] <;> rfl) | (simp [*, errW_none, errW_some] <;> rfl), by repeat (first | (with_reducible first | exact HB.out | apply below_alloc | apply pw_below_drewN | apply below_drew1 | refine below_set ?_ GE142.out | refine below_set ?_ GE143.out) | exact HB.out)⟩

end Go.Proofs.Ytdnfagcnojnmiaa.PFnExactRateAt
