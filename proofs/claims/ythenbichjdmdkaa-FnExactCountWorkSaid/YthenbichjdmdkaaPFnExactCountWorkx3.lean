/- Lean forms and contracts of the functions that the law FnExactCountWork reaches, laid by a program; those of functions that it does not take are hand-made. No condition is added. -/
import Derived.Test.YthenbichjdmdkaaPFnExactCountWorkx0
import Derived.Test.YthenbichjdmdkaaPFnExactCountWorkx2
namespace Go.Proofs.Ythenbichjdmdkaa.PFnExactCountWork
open Go.RowKit Go.Proofs.YthenbichjdmdkaaW.PrintWords Go.Proofs.YthenbichjdmdkaaW.PrintLast Go.Proofs.YthenbichjdmdkaaW.PrintMore
attribute [local go_sem] max2_int min2_int max_two min_two max_three min_three max_four min_four   -- for this text's walks alone
set_option linter.unusedVariables false
set_option linter.unusedSimpArgs false

/-! ### impl_works: function 35 -/
mutual
def impl_works.j0 : Nat → Int → Bool → Int → List Int → Option (Bool)
  | 0, _, _, _, _ => none
  | k + 1, x1, x20, x139000, x139001 => if x20 = true then (some false) else (impl_works.l0 k x1 0 (x139001.length : Int) x139000 x139001)
def impl_works.l0 : Nat → Int → Int → Int → Int → List Int → Option (Bool)
  | 0, _, _, _, _, _ => none
  | k + 1, x1, x5, x6, x139000, x139001 => if x5 < x6 then (if 0 ≤ (wrap64 (Int.tdiv (wrap64 (x5 + x6)) 2)) then (if (wrap64 (Int.tdiv (wrap64 (x5 + x6)) 2)) < (x139001.length : Int) then (if (rd x139001 (wrap64 (Int.tdiv (wrap64 (x5 + x6)) 2))) < x1 then (impl_works.l0 k x1 (wrap64 ((wrap64 (Int.tdiv (wrap64 (x5 + x6)) 2)) + 1)) x6 x139000 x139001) else (impl_works.l0 k x1 x5 (wrap64 (Int.tdiv (wrap64 (x5 + x6)) 2)) x139000 x139001)) else (none)) else (none)) else (if x5 = (x139001.length : Int) then (some true) else (if 0 ≤ x5 then (if x5 < (x139001.length : Int) then (some ((rd x139001 x5) != x1)) else (none)) else (none)))
end
def impl_works.f (k : Nat) (a0_0 : Int) (l0_1 : List Int) (a1 : Int) : Option (Bool) := (impl_isDay.f a1).bind fun t139 => (if t139 = true then ((impl_Weekday.f a1).bind fun t140 => (if 0 ≤ (IntKind.u64.wrap (t140)) then (impl_works.j0 k a1 ((Go.bits .and .i64 (shr .i64 a0_0 (IntKind.u64.wrap (t140))) 1) == 1) a0_0 l0_1) else (none))) else (impl_works.j0 k a1 true a0_0 l0_1))
theorem impl_works.mono_l : ∀ k, (∀ y0 y1 y2 y3, LeO (impl_works.j0 k y0 y1 y2 y3) (impl_works.j0 (k + 1) y0 y1 y2 y3)) ∧ (∀ y0 y1 y2 y3 y4, LeO (impl_works.l0 k y0 y1 y2 y3 y4) (impl_works.l0 (k + 1) y0 y1 y2 y3 y4))
  | 0 => ⟨fun _ _ _ _ r h => by simp [impl_works.j0] at h, fun _ _ _ _ _ r h => by simp [impl_works.l0] at h⟩
  | k + 1 => by
    obtain ⟨ih0, ih1⟩ := impl_works.mono_l k
    refine ⟨?_, ?_⟩
    · intro y0 y1 y2 y3
      unfold impl_works.j0
      repeat' first
      | (with_reducible exact ih0 _ _ _ _)
      | (with_reducible exact ih1 _ _ _ _ _)
      | (with_reducible exact LeO.refl _)
      | (with_reducible exact LeO.none _)
      | (with_reducible refine LeO.ite ?_ ?_)
      | (with_reducible refine LeO.bind ?_ (fun _ => ?_))
      | exact ih0 _ _ _ _
      | exact ih1 _ _ _ _ _
      | exact LeO.none _
      | refine LeO.ite ?_ ?_
      | refine LeO.bind ?_ (fun _ => ?_)
    · intro y0 y1 y2 y3 y4
      unfold impl_works.l0
      repeat' first
      | (with_reducible exact ih0 _ _ _ _)
      | (with_reducible exact ih1 _ _ _ _ _)
      | (with_reducible exact LeO.refl _)
      | (with_reducible exact LeO.none _)
      | (with_reducible refine LeO.ite ?_ ?_)
      | (with_reducible refine LeO.bind ?_ (fun _ => ?_))
      | exact ih0 _ _ _ _
      | exact ih1 _ _ _ _ _
      | exact LeO.none _
      | refine LeO.ite ?_ ?_
      | refine LeO.bind ?_ (fun _ => ?_)
theorem impl_works.mono : ∀ a0 a1 a2 k, LeO (impl_works.f k a0 a1 a2) (impl_works.f (k + 1) a0 a1 a2) := by
  intro a0 a1 a2 k
  obtain ⟨ih0, ih1⟩ := impl_works.mono_l k
  unfold impl_works.f
  repeat' first
      | (with_reducible exact ih0 _ _ _ _)
      | (with_reducible exact ih1 _ _ _ _ _)
      | (with_reducible exact LeO.refl _)
      | (with_reducible exact LeO.none _)
      | (with_reducible refine LeO.ite ?_ ?_)
      | (with_reducible refine LeO.bind ?_ (fun _ => ?_))
      | exact ih0 _ _ _ _
      | exact ih1 _ _ _ _ _
      | exact LeO.none _
      | refine LeO.ite ?_ ?_
      | refine LeO.bind ?_ (fun _ => ?_)
set_option maxHeartbeats 8000000 in
set_option maxRecDepth 100000 in
theorem impl_works.calls (k : Nat) (a0_0 : Int) (A0_1 : Option Addr) (c0_1 : Nat) (l0_1 : List Int) (a1 : Int) (r : Bool) (w : World) (hr0_1 : Kd.C (Kd.int .i64) w A0_1 l0_1.length l0_1) (hc0_1 : l0_1.length ≤ c0_1) (h : impl_works.f k a0_0 l0_1 a1 = some r) :
    Calls Try.prog 35 #[.agg #[.int .i64 a0_0, .slice A0_1 l0_1.length c0_1], .int .i64 a1] w fun e w' => e = .returned (.bool r) ∧ Below w.heap.size w w' := by
  have hu34 := Try.underlying34
  have HR0_1 := Aside0.mk hr0_1
  have HC0_1 := Aside0.mk hc0_1
  clear hr0_1 hc0_1
  have HB := Aside0.mk (Below.refl w.heap.size w)
  have H : ((impl_isDay.f a1).bind fun t139 => (if t139 = true then ((impl_Weekday.f a1).bind fun t140 => (if 0 ≤ (IntKind.u64.wrap (t140)) then (impl_works.j0 k a1 ((Go.bits .and .i64 (shr .i64 a0_0 (IntKind.u64.wrap (t140))) 1) == 1) a0_0 l0_1) else (none))) else (impl_works.j0 k a1 true a0_0 l0_1))) = some r := h
  clear h
  have HC3 := Aside0.mk H
  clear H
  go_enter Try.func35, Try.ntmps35
  go_upto_region 1 with (first | ((with_reducible refine gate_dst (N := 2) rfl ?_); refine box_event ?hg (N := 2) ?hd (cs := #[.int .i64 a0_0, .slice A0_1 l0_1.length c0_1]) (t := 34) ?hr ?_; (case hd => rfl); (case hg => rfl); (case hr => first | (go_simp; done) | (go_simp; rfl)); intro gb138 hg w4 hbox hb; have n0_ := Aside0.mk (below_step (by repeat (first | (with_reducible first | exact HB.out | apply below_alloc | apply pw_below_drewN | apply below_drew1) | exact HB.out)) hb); have n1_ := Aside0.mk (hbox); have n2_ := Aside0.mk ((by rw [hg]; exact (below_size (by repeat (first | (with_reducible first | exact HB.out | apply below_alloc | apply pw_below_drewN | apply below_drew1) | exact HB.out))) : w.heap.size ≤ gb138)); have n3_ := Aside0.mk ((by rw [hg]; exact (below_size (by repeat (first | (with_reducible first | exact HB.out | apply below_alloc | apply pw_below_drewN | apply below_drew1) | exact HB.out))) : w.heap.size ≤ gb138)); clear HB; have HB := n0_; have BK138 := n1_; have GW138 := n2_; have GE138 := n3_; clear n0_ n1_ n2_ n3_; clear hb hbox hg))
  repeat (go_quiet (first | ((with_reducible refine gate_dst (N := 2) rfl ?_); refine box_event ?hg (N := 2) ?hd (cs := #[.int .i64 a0_0, .slice A0_1 l0_1.length c0_1]) (t := 34) ?hr ?_; (case hd => rfl); (case hg => rfl); (case hr => first | (go_simp; done) | (go_simp; rfl)); intro gb138 hg w4 hbox hb; have n0_ := Aside0.mk (below_step (by repeat (first | (with_reducible first | exact HB.out | apply below_alloc | apply pw_below_drewN | apply below_drew1) | exact HB.out)) hb); have n1_ := Aside0.mk (hbox); have n2_ := Aside0.mk ((by rw [hg]; exact (below_size (by repeat (first | (with_reducible first | exact HB.out | apply below_alloc | apply pw_below_drewN | apply below_drew1) | exact HB.out))) : w.heap.size ≤ gb138)); have n3_ := Aside0.mk ((by rw [hg]; exact (below_size (by repeat (first | (with_reducible first | exact HB.out | apply below_alloc | apply pw_below_drewN | apply below_drew1) | exact HB.out))) : w.heap.size ≤ gb138)); clear HB; have HB := n0_; have BK138 := n1_; have GW138 := n2_; have GE138 := n3_; clear n0_ n1_ n2_ n3_; clear hb hbox hg)); go_upto_region 1 with (first | ((with_reducible refine gate_dst (N := 2) rfl ?_); refine box_event ?hg (N := 2) ?hd (cs := #[.int .i64 a0_0, .slice A0_1 l0_1.length c0_1]) (t := 34) ?hr ?_; (case hd => rfl); (case hg => rfl); (case hr => first | (go_simp; done) | (go_simp; rfl)); intro gb138 hg w4 hbox hb; have n0_ := Aside0.mk (below_step (by repeat (first | (with_reducible first | exact HB.out | apply below_alloc | apply pw_below_drewN | apply below_drew1) | exact HB.out)) hb); have n1_ := Aside0.mk (hbox); have n2_ := Aside0.mk ((by rw [hg]; exact (below_size (by repeat (first | (with_reducible first | exact HB.out | apply below_alloc | apply pw_below_drewN | apply below_drew1) | exact HB.out))) : w.heap.size ≤ gb138)); have n3_ := Aside0.mk ((by rw [hg]; exact (below_size (by repeat (first | (with_reducible first | exact HB.out | apply below_alloc | apply pw_below_drewN | apply below_drew1) | exact HB.out))) : w.heap.size ≤ gb138)); clear HB; have HB := n0_; have BK138 := n1_; have GW138 := n2_; have GE138 := n3_; clear n0_ n1_ n2_ n3_; clear hb hbox hg)))
  (try simp only [Act.put, List.setIfInBounds_toArray, List.set_cons_zero, List.set_cons_succ])
  go_cut [20] (fun v20 wc => ∃ (kq : Nat) (x20_2 : Bool), v20 = .bool x20_2 ∧ Aside0 (impl_works.j0 kq a1 x20_2 a0_0 l0_1 = some r) ∧ Aside0 (kq ≤ k) ∧ Aside0 (wc.heap[gb138]? = some (.cells #[.int .i64 a0_0, (.slice A0_1 l0_1.length c0_1)] 34 (0, 0))) ∧ Aside0 (Below w.heap.size w wc))
  case first =>
    have H := HC3.out
    clear HC3
    replace H := Option.bind_eq_some_iff.mp H
    obtain ⟨t139, A50, H⟩ := H
    replace H : (if t139 = true then ((impl_Weekday.f a1).bind fun t140 => (if 0 ≤ (IntKind.u64.wrap (t140)) then (impl_works.j0 k a1 ((Go.bits .and .i64 (shr .i64 a0_0 (IntKind.u64.wrap (t140))) 1) == 1) a0_0 l0_1) else (none))) else (impl_works.j0 k a1 true a0_0 l0_1)) = some r := H
    have A5 := Aside0.mk A50
    clear A50
    by_cases c6 : t139 = true
    · subst c6
      have H1 : ((impl_Weekday.f a1).bind fun t140 => (if 0 ≤ (IntKind.u64.wrap (t140)) then (impl_works.j0 k a1 ((Go.bits .and .i64 (shr .i64 a0_0 (IntKind.u64.wrap (t140))) 1) == 1) a0_0 l0_1) else (none))) = some r := by rw [if_pos rfl] at H; exact H
      clear H
      have H := H1
      clear H1
      replace H := Option.bind_eq_some_iff.mp H
      obtain ⟨t140, A70, H⟩ := H
      replace H : (if 0 ≤ (IntKind.u64.wrap (t140)) then (impl_works.j0 k a1 ((Go.bits .and .i64 (shr .i64 a0_0 (IntKind.u64.wrap (t140))) 1) == 1) a0_0 l0_1) else (none)) = some r := H
      have A7 := Aside0.mk A70
      clear A70
      obtain ⟨ji8, hji8⟩ : ∃ j_ : Int, (IntKind.u64.wrap (t140)) = j_ := ⟨_, rfl⟩
      replace H : (if 0 ≤ (ji8) then (impl_works.j0 k a1 ((Go.bits .and .i64 (shr .i64 a0_0 (ji8)) 1) == 1) a0_0 l0_1) else (none)) = some r := by first | (rw [hji8] at H; exact H) | (simp only [hji8] at H ⊢; exact H)
      (try rw [hji8] at A5)
      (try rw [hji8] at A7)
      by_cases c9 : 0 ≤ (ji8)
      · rw [if_pos c9] at H
        have c9b0 := eq_true c9
        have c9b1 : decide (0 ≤ (ji8)) = true := decide_eq_true c9
        clear c9
        obtain ⟨ji10, hji10⟩ : ∃ j_ : Int, (shr .i64 a0_0 (ji8)) = j_ := ⟨_, rfl⟩
        replace H : (impl_works.j0 k a1 ((Go.bits .and .i64 (ji10) 1) == 1) a0_0 l0_1) = some r := by first | (rw [hji10] at H; exact H) | (simp only [hji10] at H ⊢; exact H)
        (try rw [hji10] at A5)
        (try rw [hji10] at A7)
        have hji10_ : (a0_0 / 2 ^ min (ji8).toNat 64) = ji10 := hji10
        have hji10z : (ji8) ≤ 64 → (a0_0 / 2 ^ (ji8).toNat) = ji10 := shr_small hji10
        have H' := Aside0.mk H
        clear H
        go_wp2_with (first | (go_at_call 29; (with_reducible refine (impl_isDay.calls a1 true _ A5.out).mono ?_); rintro e w' ⟨rfl, ⟨nd, rfl⟩⟩; (try first | exact ⟨rfl, _, World.drewN_drewN _ _ _⟩ | exact ⟨rfl, _, Eq.trans (World.drewN_drewN _ _ _) (congrArg (World.drewN _) (Nat.add_assoc _ _ _))⟩); have hcz11_0 : w4.cell? ⟨gb138, 0, none⟩ = some (.int .i64 a0_0) := (blk_cell BK138.out 0).trans rfl; have hcz11_1 : w4.cell? ⟨gb138, 1, none⟩ = some (.slice A0_1 l0_1.length c0_1) := (blk_cell BK138.out 1).trans rfl; have hfz11_0 := blk_frozen BK138.out 0; have hfz11_1 := blk_frozen BK138.out 1) | (go_at_call 36; (with_reducible refine (impl_Weekday.calls a1 t140 _ A7.out).mono ?_); rintro e w' ⟨rfl, ⟨nd, rfl⟩⟩; (try first | exact ⟨rfl, _, World.drewN_drewN _ _ _⟩ | exact ⟨rfl, _, Eq.trans (World.drewN_drewN _ _ _) (congrArg (World.drewN _) (Nat.add_assoc _ _ _))⟩)))
        repeat (go_quiet (first | (go_at_call 29; (with_reducible refine (impl_isDay.calls a1 true _ A5.out).mono ?_); rintro e w' ⟨rfl, ⟨nd, rfl⟩⟩; (try first | exact ⟨rfl, _, World.drewN_drewN _ _ _⟩ | exact ⟨rfl, _, Eq.trans (World.drewN_drewN _ _ _) (congrArg (World.drewN _) (Nat.add_assoc _ _ _))⟩); have hcz11_0 : w4.cell? ⟨gb138, 0, none⟩ = some (.int .i64 a0_0) := (blk_cell BK138.out 0).trans rfl; have hcz11_1 : w4.cell? ⟨gb138, 1, none⟩ = some (.slice A0_1 l0_1.length c0_1) := (blk_cell BK138.out 1).trans rfl; have hfz11_0 := blk_frozen BK138.out 0; have hfz11_1 := blk_frozen BK138.out 1) | (go_at_call 36; (with_reducible refine (impl_Weekday.calls a1 t140 _ A7.out).mono ?_); rintro e w' ⟨rfl, ⟨nd, rfl⟩⟩; (try first | exact ⟨rfl, _, World.drewN_drewN _ _ _⟩ | exact ⟨rfl, _, Eq.trans (World.drewN_drewN _ _ _) (congrArg (World.drewN _) (Nat.add_assoc _ _ _))⟩))); try go_wp2_with (first | (go_at_call 29; (with_reducible refine (impl_isDay.calls a1 true _ A5.out).mono ?_); rintro e w' ⟨rfl, ⟨nd, rfl⟩⟩; (try first | exact ⟨rfl, _, World.drewN_drewN _ _ _⟩ | exact ⟨rfl, _, Eq.trans (World.drewN_drewN _ _ _) (congrArg (World.drewN _) (Nat.add_assoc _ _ _))⟩); have hcz11_0 : w4.cell? ⟨gb138, 0, none⟩ = some (.int .i64 a0_0) := (blk_cell BK138.out 0).trans rfl; have hcz11_1 : w4.cell? ⟨gb138, 1, none⟩ = some (.slice A0_1 l0_1.length c0_1) := (blk_cell BK138.out 1).trans rfl; have hfz11_0 := blk_frozen BK138.out 0; have hfz11_1 := blk_frozen BK138.out 1) | (go_at_call 36; (with_reducible refine (impl_Weekday.calls a1 t140 _ A7.out).mono ?_); rintro e w' ⟨rfl, ⟨nd, rfl⟩⟩; (try first | exact ⟨rfl, _, World.drewN_drewN _ _ _⟩ | exact ⟨rfl, _, Eq.trans (World.drewN_drewN _ _ _) (congrArg (World.drewN _) (Nat.add_assoc _ _ _))⟩))))
        go_meet
        case rel => exact ⟨_, (((Go.bits .and .i64 (ji10) 1) == 1)), (by first | rfl | (simp; done) | (simp only [← hji10] <;> (first | rfl | simp)) | (simp [*]; done)), H', ⟨by first | omega | exact Nat.le_refl _⟩, ⟨by (with_reducible repeat (first | refine blk_drewN ?_ _ | refine blk_drew ?_ | refine blk_alloc ?_ _)); exact BK138.out⟩, ⟨by repeat (first | (with_reducible first | exact HB.out | apply below_alloc | apply pw_below_drewN | apply below_drew1 | refine below_set ?_ GE138.out) | exact HB.out)⟩⟩
      · rw [if_neg c9] at H
        exact absurd H (by simp)
    · replace c6 := Bool.eq_false_iff.mpr c6
      subst c6
      have H1 : (impl_works.j0 k a1 true a0_0 l0_1) = some r := by rw [if_neg (show ¬ (false = true) by decide)] at H; exact H
      clear H
      have H := H1
      clear H1
      have H' := Aside0.mk H
      clear H
      go_wp2_with (first | (go_at_call 29; (with_reducible refine (impl_isDay.calls a1 false _ A5.out).mono ?_); rintro e w' ⟨rfl, ⟨nd, rfl⟩⟩; (try first | exact ⟨rfl, _, World.drewN_drewN _ _ _⟩ | exact ⟨rfl, _, Eq.trans (World.drewN_drewN _ _ _) (congrArg (World.drewN _) (Nat.add_assoc _ _ _))⟩)))
      repeat (go_quiet (first | (go_at_call 29; (with_reducible refine (impl_isDay.calls a1 false _ A5.out).mono ?_); rintro e w' ⟨rfl, ⟨nd, rfl⟩⟩; (try first | exact ⟨rfl, _, World.drewN_drewN _ _ _⟩ | exact ⟨rfl, _, Eq.trans (World.drewN_drewN _ _ _) (congrArg (World.drewN _) (Nat.add_assoc _ _ _))⟩))); try go_wp2_with (first | (go_at_call 29; (with_reducible refine (impl_isDay.calls a1 false _ A5.out).mono ?_); rintro e w' ⟨rfl, ⟨nd, rfl⟩⟩; (try first | exact ⟨rfl, _, World.drewN_drewN _ _ _⟩ | exact ⟨rfl, _, Eq.trans (World.drewN_drewN _ _ _) (congrArg (World.drewN _) (Nat.add_assoc _ _ _))⟩))))
      go_meet
      case rel => exact ⟨_, (true), (by first | rfl | (simp; done) | (simp [*]; done)), H', ⟨by first | omega | exact Nat.le_refl _⟩, ⟨by (with_reducible repeat (first | refine blk_drewN ?_ _ | refine blk_drew ?_ | refine blk_alloc ?_ _)); exact BK138.out⟩, ⟨by repeat (first | (with_reducible first | exact HB.out | apply below_alloc | apply pw_below_drewN | apply below_drew1 | refine below_set ?_ GE138.out) | exact HB.out)⟩⟩
  case rest =>
    clear HC3
    try clear p2
    try clear c3
    try clear c6
    try clear c9
    try clear c9b0
    try clear c9b1
    try clear hcz11_0
    try clear hcz11_1
    try clear hfz11_0
    try clear hfz11_1
    obtain ⟨kq, x20_2, rfl, HA, HJ2, BK138, HB⟩ := hcut
    cases kq with
    | zero => exact absurd HA.out (by simp [impl_works.j0])
    | succ kj2 =>
      have H := HA.out
      clear HA
      simp only [impl_works.j0] at H
      by_cases c12 : x20_2 = true
      · subst c12
        have H1 : (some false) = some r := by rw [if_pos rfl] at H; exact H
        clear H
        have H := H1
        clear H1
        obtain rfl := Option.some.inj H
        go_wp2
        repeat (go_quiet (fail); try go_wp2)
        go_ret
        exact ⟨by first | rfl | (simp [errW_none, errW_some] <;> rfl) | (simp [*, errW_none, errW_some] <;> rfl), by repeat (first | (with_reducible first | exact HB.out | apply below_alloc | apply pw_below_drewN | apply below_drew1 | refine below_set ?_ GE138.out) | exact HB.out)⟩
      · replace c12 := Bool.eq_false_iff.mpr c12
        subst c12
        have H1 : (impl_works.l0 kj2 a1 0 (l0_1.length : Int) a0_0 l0_1) = some r := by rw [if_neg (show ¬ (false = true) by decide)] at H; exact H
        clear H
        have H := H1
        clear H1
        have H' := Aside0.mk H
        clear H
        have hcz13_0 : wc.cell? ⟨gb138, 0, none⟩ = some (.int .i64 a0_0) := (blk_cell BK138.out 0).trans rfl
        have hcz13_1 : wc.cell? ⟨gb138, 1, none⟩ = some (.slice A0_1 l0_1.length c0_1) := (blk_cell BK138.out 1).trans rfl
        have hfz13_0 := blk_frozen BK138.out 0
        have hfz13_1 := blk_frozen BK138.out 1
        go_wp2
        repeat (go_quiet (fail); try go_wp2)
        go_loopg [5, 6] kj2 (fun kq v5 v6 w' => ∃ (x5_2 : Int) (x6_2 : Int), v5 = .int .i64 x5_2 ∧ v6 = .int .i64 x6_2 ∧ Aside0 (impl_works.l0 kq a1 x5_2 x6_2 a0_0 l0_1 = some r) ∧ Aside0 (kq ≤ kj2) ∧ Aside0 (w'.heap[gb138]? = some (.cells #[.int .i64 a0_0, (.slice A0_1 l0_1.length c0_1)] 34 (0, 0))) ∧ Aside0 (Below w.heap.size w w'))
        case atStart => exact ⟨(0), ((l0_1.length : Int)), (by first | rfl | (simp; done) | (simp [*]; done)), (by first | rfl | (simp; done) | (simp [*]; done)), H', ⟨Nat.le_refl _⟩, ⟨by (with_reducible repeat (first | refine blk_drewN ?_ _ | refine blk_drew ?_ | refine blk_alloc ?_ _)); exact BK138.out⟩, ⟨by repeat (first | (with_reducible first | exact HB.out | apply below_alloc | apply pw_below_drewN | apply below_drew1 | refine below_set ?_ GE138.out) | exact HB.out)⟩⟩
        case round =>
          clear H'
          try clear c1
          try clear p2
          try clear c3
          try clear c6
          try clear c9
          try clear c9b0
          try clear c9b1
          try clear c12
          try clear hcz11_0
          try clear hcz11_1
          try clear hcz13_0
          try clear hcz13_1
          try clear hfz11_0
          try clear hfz11_1
          try clear hfz13_0
          try clear hfz13_1
          try clear p2
          obtain ⟨x5_2, x6_2, rfl, rfl, HA, HK2, BK138, HB⟩ := hrel
          cases gk with
          | zero => exact absurd HA.out (by simp [impl_works.l0])
          | succ k2 =>
            have H := HA.out
            clear HA
            simp only [impl_works.l0] at H
            by_cases c14 : x5_2 < x6_2
            · rw [if_pos c14] at H
              have c14b0 : decide (x5_2 < x6_2) = true := decide_eq_true c14
              clear c14
              obtain ⟨ji15, hji15⟩ : ∃ j_ : Int, (wrap64 (Int.tdiv (wrap64 (x5_2 + x6_2)) 2)) = j_ := ⟨_, rfl⟩
              replace H : (if 0 ≤ (ji15) then (if (ji15) < (l0_1.length : Int) then (if (rd l0_1 (ji15)) < a1 then (impl_works.l0 k2 a1 (wrap64 ((ji15) + 1)) x6_2 a0_0 l0_1) else (impl_works.l0 k2 a1 x5_2 ji15 a0_0 l0_1)) else (none)) else (none)) = some r := by first | (rw [hji15] at H; exact H) | (simp only [hji15] at H ⊢; exact H)
              have hji15w : (IntKind.i64.wrap (Int.tdiv (wrap64 (x5_2 + x6_2)) 2)) = ji15 := (i64_w _).trans hji15
              by_cases c16 : 0 ≤ (ji15)
              · rw [if_pos c16] at H
                have c16b0 : decide (0 ≤ (ji15)) = true := decide_eq_true c16
                clear c16
                by_cases c17 : (ji15) < (l0_1.length : Int)
                · rw [if_pos c17] at H
                  have c17b0 : decide ((ji15) < (l0_1.length : Int)) = true := decide_eq_true c17
                  clear c17
                  by_cases c18 : (rd l0_1 (ji15)) < a1
                  · rw [if_pos c18] at H
                    have c18b0 : decide ((rd l0_1 (ji15)) < a1) = true := decide_eq_true c18
                    clear c18
                    have H' := Aside0.mk H
                    clear H
                    have hcz19_0 : wr.cell? ⟨gb138, 0, none⟩ = some (.int .i64 a0_0) := (blk_cell BK138.out 0).trans rfl
                    have hcz19_1 : wr.cell? ⟨gb138, 1, none⟩ = some (.slice A0_1 l0_1.length c0_1) := (blk_cell BK138.out 1).trans rfl
                    have hfz19_0 := blk_frozen BK138.out 0
                    have hfz19_1 := blk_frozen BK138.out 1
                    have p141 : 0 ≤ ((ji15) : Int) := of_decide_eq_true (by first | (with_reducible assumption) | assumption)
                    have q141 : (ji15) < (l0_1.length : Int) := of_decide_eq_true (by first | (with_reducible assumption) | assumption)
                    obtain ⟨ad141, e141, hx141_0⟩ := Kd.at_int HR0_1.out (ji15) p141 q141
                    cases e141
                    replace hx141_0 := (HB.out.cell (World.block_lt_of_cell? w _ hx141_0)).trans hx141_0
                    replace p141 := eq_true p141
                    replace q141 := eq_true q141
                    go_wp2
                    repeat (go_quiet (fail); try go_wp2)
                    go_roundg k2
                    case measure => have := HJ2.out; have := HK2.out; omega
                    case rel => exact ⟨(wrap64 ((ji15) + 1)), (x6_2), (by first | rfl | (simp; done) | (simp only [← hji15] <;> (first | rfl | simp)) | (simp [*]; done)), (by first | rfl | (simp; done) | (simp [*]; done)), H', ⟨by have := HJ2.out; have := HK2.out; omega⟩, ⟨by (with_reducible repeat (first | refine blk_drewN ?_ _ | refine blk_drew ?_ | refine blk_alloc ?_ _)); exact BK138.out⟩, ⟨by repeat (first | (with_reducible first | exact HB.out | apply below_alloc | apply pw_below_drewN | apply below_drew1 | refine below_set ?_ GE138.out) | exact HB.out)⟩⟩
                  · rw [if_neg c18] at H
                    have c18b0 : decide ((rd l0_1 (ji15)) < a1) = false := decide_eq_false c18
                    clear c18
                    have H' := Aside0.mk H
                    clear H
                    have hcz20_0 : wr.cell? ⟨gb138, 0, none⟩ = some (.int .i64 a0_0) := (blk_cell BK138.out 0).trans rfl
                    have hcz20_1 : wr.cell? ⟨gb138, 1, none⟩ = some (.slice A0_1 l0_1.length c0_1) := (blk_cell BK138.out 1).trans rfl
                    have hfz20_0 := blk_frozen BK138.out 0
                    have hfz20_1 := blk_frozen BK138.out 1
                    have p141 : 0 ≤ ((ji15) : Int) := of_decide_eq_true (by first | (with_reducible assumption) | assumption)
                    have q141 : (ji15) < (l0_1.length : Int) := of_decide_eq_true (by first | (with_reducible assumption) | assumption)
                    obtain ⟨ad141, e141, hx141_0⟩ := Kd.at_int HR0_1.out (ji15) p141 q141
                    cases e141
                    replace hx141_0 := (HB.out.cell (World.block_lt_of_cell? w _ hx141_0)).trans hx141_0
                    replace p141 := eq_true p141
                    replace q141 := eq_true q141
                    go_wp2
                    repeat (go_quiet (fail); try go_wp2)
                    go_roundg k2
                    case measure => have := HJ2.out; have := HK2.out; omega
                    case rel => exact ⟨(x5_2), (ji15), (by first | rfl | (simp; done) | (simp [*]; done)), (by first | rfl | (simp; done) | (simp only [← hji15] <;> (first | rfl | simp)) | (simp [*]; done)), H', ⟨by have := HJ2.out; have := HK2.out; omega⟩, ⟨by (with_reducible repeat (first | refine blk_drewN ?_ _ | refine blk_drew ?_ | refine blk_alloc ?_ _)); exact BK138.out⟩, ⟨by repeat (first | (with_reducible first | exact HB.out | apply below_alloc | apply pw_below_drewN | apply below_drew1 | refine below_set ?_ GE138.out) | exact HB.out)⟩⟩
                · rw [if_neg c17] at H
                  exact absurd H (by simp)
              · rw [if_neg c16] at H
                exact absurd H (by simp)
            · rw [if_neg c14] at H
              have c14b0 : decide (x5_2 < x6_2) = false := decide_eq_false c14
              clear c14
              by_cases c21 : x5_2 = (l0_1.length : Int)
              · rw [if_pos c21] at H
                have c21b0 : (x5_2 == (l0_1.length : Int)) = true := beq_iff_eq.mpr c21
                have c21b1 : (x5_2 != (l0_1.length : Int)) = false := bne_eq_false_iff_eq.mpr c21
                clear c21
                obtain rfl := Option.some.inj H
                have hcz22_0 : wr.cell? ⟨gb138, 0, none⟩ = some (.int .i64 a0_0) := (blk_cell BK138.out 0).trans rfl
                have hcz22_1 : wr.cell? ⟨gb138, 1, none⟩ = some (.slice A0_1 l0_1.length c0_1) := (blk_cell BK138.out 1).trans rfl
                have hfz22_0 := blk_frozen BK138.out 0
                have hfz22_1 := blk_frozen BK138.out 1
                go_wp2
                repeat (go_quiet (fail); try go_wp2)
                go_ret
                exact ⟨by first | rfl | (simp [errW_none, errW_some] <;> rfl) | (simp [*, errW_none, errW_some] <;> rfl), by repeat (first | (with_reducible first | exact HB.out | apply below_alloc | apply pw_below_drewN | apply below_drew1 | refine below_set ?_ GE138.out) | exact HB.out)⟩
              · rw [if_neg c21] at H
                have c21b0 : (x5_2 == (l0_1.length : Int)) = false := beq_eq_false_iff_ne.mpr c21
                have c21b1 : (x5_2 != (l0_1.length : Int)) = true := bne_iff_ne.mpr c21
                by_cases c23 : 0 ≤ x5_2
                · rw [if_pos c23] at H
                  have c23b0 : decide (0 ≤ x5_2) = true := decide_eq_true c23
                  clear c23
                  by_cases c24 : x5_2 < (l0_1.length : Int)
                  · rw [if_pos c24] at H
                    have c24b0 : decide (x5_2 < (l0_1.length : Int)) = true := decide_eq_true c24
                    clear c24
                    obtain rfl := Option.some.inj H
                    have hcz25_0 : wr.cell? ⟨gb138, 0, none⟩ = some (.int .i64 a0_0) := (blk_cell BK138.out 0).trans rfl
                    have hcz25_1 : wr.cell? ⟨gb138, 1, none⟩ = some (.slice A0_1 l0_1.length c0_1) := (blk_cell BK138.out 1).trans rfl
                    have hfz25_0 := blk_frozen BK138.out 0
                    have hfz25_1 := blk_frozen BK138.out 1
                    have p142 : 0 ≤ (x5_2 : Int) := of_decide_eq_true (by first | (with_reducible assumption) | assumption)
                    have q142 : x5_2 < (l0_1.length : Int) := of_decide_eq_true (by first | (with_reducible assumption) | assumption)
                    obtain ⟨ad142, e142, hx142_0⟩ := Kd.at_int HR0_1.out x5_2 p142 q142
                    cases e142
                    replace hx142_0 := (HB.out.cell (World.block_lt_of_cell? w _ hx142_0)).trans hx142_0
                    replace p142 := eq_true p142
                    replace q142 := eq_true q142
                    go_wp2
                    repeat (go_quiet (fail); try go_wp2)
                    go_ret
                    exact ⟨by first | rfl | (simp [errW_none, errW_some] <;> rfl) | (simp [*, errW_none, errW_some] <;> rfl), by repeat (first | (with_reducible first | exact HB.out | apply below_alloc | apply pw_below_drewN | apply below_drew1 | refine below_set ?_ GE138.out) | exact HB.out)⟩
                  · rw [if_neg c24] at H
                    exact absurd H (by simp)
                · rw [if_neg c23] at H
                  exact absurd H (by simp)

-- NOT PRINTED: function 34 (impl_workdays_1)

/-! ### impl_CountWork: function 12 -/
section
open Go.Shelf
attribute [local go_sem] Oper.semAt_some
/-- The working days from d on, by steps. -/
def impl_workdays.L (k : Nat) (off : Int) (l : List Int) (step : Int) : Nat → Int → Option (List Int)
  | 0, _ => none
  | n + 1, d => if 0 ≤ d ∧ d ≤ 40000 then (impl_works.f k off l d).bind fun b => (impl_workdays.L k off l step n (d + step)).bind fun r => if b = true then some (d :: r) else some r else some []
def impl_workdays.Keeps (n₀ bc bs : Nat) (W W' : World) : Prop := Below n₀ W W' ∧ (∀ i : Nat, W'.cell? ⟨bc, i, none⟩ = W.cell? ⟨bc, i, none⟩) ∧ (∀ i : Nat, W'.cell? ⟨bs, i, none⟩ = W.cell? ⟨bs, i, none⟩)
def impl_workdays.mu (step : Int) (p : Value) : Nat := if step = 1 then (40001 - intOf p).toNat else (intOf p + 1).toNat
theorem impl_workdays.isDay (d : Int) : impl_isDay.f d = some (decide (0 ≤ d ∧ d ≤ 40000)) := by
  unfold impl_isDay.f impl_between.f
  by_cases h : d ≥ 0
  · rw [if_pos h]; simp only [Option.bind_some]; congr 1; rw [decide_eq_decide]; omega
  · rw [if_neg h]; simp only [Option.bind_some]; congr 1; symm; rw [decide_eq_false_iff_not]; omega
theorem abides_below {β : Type} {B : Nat} {J : β → World → Prop} (h : AbidesFrom B J) {s : β} {W W' : World} (hs : J s W) (hb : Below W.heap.size W W') : J s W' :=
  h s W W' none hs ⟨hb.os, hb.tape, hb.output, hb.size, fun k hk _ => hb.block k hk⟩ (fun r e => by cases e)
def impl_workdays.Post (LL : List Int) (J Jx : List Int → World → Prop) (e : Ending) (W' : World) : Prop := (∃ v, e = .returned v) ∧ ((∃ xs, xs = LL ∧ J xs W') ∨ (∃ pre, pre <+: LL ∧ Jx pre W'))
def impl_workdays.Head (k : Nat) (off : Int) (l : List Int) (step : Int) (LL : List Int) (J : List Int → World → Prop) (w0 : World) (A : Option Addr) (c bc bs : Nat) (p : Value) (wr : World) : Prop :=
  ∃ (pre rest : List Int) (m : Nat) (d : Int), p = .int .i64 d ∧ (-1 ≤ d ∧ d ≤ 40001) ∧ impl_workdays.L k off l step m d = some rest ∧ LL = pre ++ rest ∧ J pre wr ∧
    (wr.cell? ⟨bc, 0, none⟩ = some (.int .i64 off) ∧ wr.cell? ⟨bc, 1, none⟩ = some (.slice A l.length c) ∧ wr.cell? ⟨bs, 0, none⟩ = some (.int .i64 step)) ∧ Below w0.heap.size w0 wr ∧ (bc < wr.heap.size ∧ bs < wr.heap.size)

set_option maxRecDepth 100000 in
set_option maxHeartbeats 2000000 in
theorem impl_workdays.iter (n : Nat) (hn : 1 ≤ n) (k bf bs bc : Nat) (off : Int) (l : List Int) (A : Option Addr) (c m : Nat) (step h0 : Int) (LL : List Int) (hstep : step = 1 ∨ step = -1) (hh : -1 ≤ h0) (hh2 : h0 ≤ 40001) (hc0 : l.length ≤ c) (w0 w : World)
    (hL : impl_workdays.L k off l step m h0 = some LL) (hC : Kd.C (Kd.int .i64) w0 A l.length l) (hB : Below w0.heap.size w0 w)
    (hbf : w.cell? ⟨bf, 0, none⟩ = some (.int .i64 h0)) (hbs : w.cell? ⟨bs, 0, none⟩ = some (.int .i64 step)) (hm0 : w.cell? ⟨bc, 0, none⟩ = some (.int .i64 off)) (hm1 : w.cell? ⟨bc, 1, none⟩ = some (.slice A l.length c))
    (hbl1 : bf < w.heap.size) (hbl2 : bs < w.heap.size) (hbl3 : bc < w.heap.size) :
    SeqStopsK Fence.wide n Try.prog 34 #[.pointer (some ⟨bf, 0, none⟩), .pointer (some ⟨bs, 0, none⟩), .pointer (some ⟨bc, 0, none⟩)] (fun x : Int => #[.int .i64 x]) (impl_workdays.Keeps w0.heap.size bc bs) (fun xs => xs = LL) (fun pre => pre <+: LL) LL.length w := fun ll J Jx W hW hJ hJx hY hJ0 => by
  have hcf : W.cell? ⟨bf, 0, none⟩ = some (.int .i64 h0) := (hW.cell (p := ⟨bf, 0, none⟩) hbl1).trans hbf
  have hcs : W.cell? ⟨bs, 0, none⟩ = some (.int .i64 step) := (hW.cell (p := ⟨bs, 0, none⟩) hbl2).trans hbs
  have hc0' : W.cell? ⟨bc, 0, none⟩ = some (.int .i64 off) := (hW.cell (p := ⟨bc, 0, none⟩) hbl3).trans hm0
  have hc1 : W.cell? ⟨bc, 1, none⟩ = some (.slice A l.length c) := (hW.cell (p := ⟨bc, 1, none⟩) hbl3).trans hm1
  have HB := Lib.hid (hB.trans (hW.mono hB.size))
  have HS := Lib.hid hW.size
  have HL := Lib.hid hL
  have HC := Lib.hid hC
  have HJ := Lib.hid hJ
  clear hbf hbs hm0 hm1 hC hW hL hJ hB
  refine callsIn_of_wp Try.func34 rfl trivial ?_ rfl
  simp only [Try.ntmps34, List.size_toArray, List.length_cons, List.length_nil, Nat.reduceAdd, Nat.reduceSub, Array.replicate_succ, Array.replicate_zero, List.push_toArray, List.append_toArray, List.nil_append, List.cons_append]
  gi_wp2
  gi_loopw [5] (fun p wr => impl_workdays.Head k off l step LL J w0 A c bc bs p wr) (fun p _ => impl_workdays.mu step p)
  case atStart => exact ⟨[], LL, m, h0, rfl, ⟨hh, hh2⟩, HL.out, rfl, hJ0, ⟨hc0', hc1, hcs⟩, HB.out, by have := HS.out; omega, by have := HS.out; omega⟩
  case round =>
    obtain ⟨pre, rest, m', d, rfl, ⟨hd1, hd2⟩, hL2, hLL, hJ1, ⟨e0, e1, es⟩, hB1, hb1, hb2⟩ := hrel
    clear hcf hcs hc0' hc1 HB HS HL hJ0
    obtain ⟨m', rfl⟩ : ∃ q, m' = q + 1 := ⟨m' - 1, by cases m' with | zero => simp [impl_workdays.L] at hL2 | succ q => omega⟩
    rw [impl_workdays.L] at hL2
    by_cases hd : 0 ≤ d ∧ d ≤ 40000
    · rw [if_pos hd] at hL2
      obtain ⟨b, hb, hL2⟩ := Option.bind_eq_some_iff.mp hL2
      obtain ⟨r, hr, hL2⟩ := Option.bind_eq_some_iff.mp hL2
      have hi : impl_isDay.f d = some true := by rw [impl_workdays.isDay, decide_eq_true hd]
      have HI := Lib.hid hi
      have HW := Lib.hid hb
      have HR := Lib.hid hr
      have HLL := Lib.hid hLL
      clear hi hb hr hLL
      have p1 : 0 ≤ d := hd.1
      have p2 : d ≤ 40000 := hd.2
      have p3 : -1 ≤ step := by omega
      have p4 : step ≤ 1 := by omega
      have HD := Lib.hid hd
      have HST := Lib.hid hstep
      clear hd hd1 hd2 hstep
      cases b
      · rw [if_neg (by decide)] at hL2
        obtain rfl := Option.some.inj hL2
        clear hL2
        gi_wp2_with (first | (refine ⟨trivial, ?_⟩; gi_at_call 29; refine (callsIn_wide.2 (impl_isDay.calls d true _ HI.out)).mono ?_; rintro e w' ⟨rfl, ⟨nd, rfl⟩⟩) | (refine ⟨trivial, ?_⟩; gi_at_call 35; refine (callsIn_wide.2 (impl_works.calls k off A c l d false _ (Kd.C_below HC.out (pw_below_drewN hB1 _)) hc0 HW.out)).mono ?_; rintro e w2 ⟨rfl, hb3⟩; have hb4 : Below wr.heap.size wr w2 := (pw_below_drewN (Below.refl _ _) nd).trans hb3; have HB4 := Lib.hid hb4; clear hb3 hb4; have hs2 : w2.cell? ⟨bs, 0, none⟩ = some (.int .i64 step) := (HB4.out.cell (p := ⟨bs, 0, none⟩) hb2).trans es; have HJ2 := Lib.hid (abides_below HJ.out hJ1 HB4.out)))
        refine ⟨fun _ h => (by cases h), ?_⟩
        gi_wp2
        go_roundw
        case rel => exact ⟨pre, _, m', d + step, rfl, ⟨by omega, by omega⟩, HR.out, HLL.out, HJ2.out, ⟨(HB4.out.cell (p := ⟨bc, 0, none⟩) hb1).trans e0, (HB4.out.cell (p := ⟨bc, 1, none⟩) hb1).trans e1, hs2⟩, hB1.trans (HB4.out.mono hB1.size), Nat.lt_of_lt_of_le hb1 HB4.out.size, Nat.lt_of_lt_of_le hb2 HB4.out.size⟩
        case measure =>
          unfold impl_workdays.mu
          rcases HST.out with h | h <;> subst h <;> simp [intOf] <;> omega
      · rw [if_pos rfl] at hL2
        obtain rfl := Option.some.inj hL2
        clear hL2
        have hlen : pre.length < LL.length := by rw [HLL.out]; simp
        gi_wp2_with (first | (refine ⟨trivial, ?_⟩; gi_at_call 29; refine (callsIn_wide.2 (impl_isDay.calls d true _ HI.out)).mono ?_; rintro e w' ⟨rfl, ⟨nd, rfl⟩⟩) | (refine ⟨trivial, ?_⟩; gi_at_call 35; refine (callsIn_wide.2 (impl_works.calls k off A c l d true _ (Kd.C_below HC.out (pw_below_drewN hB1 _)) hc0 HW.out)).mono ?_; rintro e w2 ⟨rfl, hb3⟩; have hb4 : Below wr.heap.size wr w2 := (pw_below_drewN (Below.refl _ _) nd).trans hb3; have HB4 := Lib.hid hb4; clear hb3 hb4; have hs2 : w2.cell? ⟨bs, 0, none⟩ = some (.int .i64 step) := (HB4.out.cell (p := ⟨bs, 0, none⟩) hb2).trans es; have HJ2 := Lib.hid (abides_below HJ.out hJ1 HB4.out); obtain ⟨fn, tmps, assign, body, hy, hR⟩ := hY pre d w2 HJ2.out hlen))
        refine hR.mono ?_
        rintro e W3 (⟨rfl, hJ3, hk3⟩ | ⟨rfl, hJx3⟩)
        · have HK := Lib.hid hk3
          have hs3 : W3.cell? ⟨bs, 0, none⟩ = some (.int .i64 step) := (HK.out.2.2 0).trans hs2
          clear hk3
          gi_wp2
          go_roundw
          case rel => exact ⟨pre ++ [d], r, m', d + step, rfl, ⟨by omega, by omega⟩, HR.out, by rw [HLL.out]; simp, hJ3, ⟨(HK.out.2.1 0).trans ((HB4.out.cell (p := ⟨bc, 0, none⟩) hb1).trans e0), (HK.out.2.1 1).trans ((HB4.out.cell (p := ⟨bc, 1, none⟩) hb1).trans e1), hs3⟩, (hB1.trans (HB4.out.mono hB1.size)).trans HK.out.1, Nat.lt_of_lt_of_le (Nat.lt_of_lt_of_le hb1 HB4.out.size) HK.out.1.size, Nat.lt_of_lt_of_le (Nat.lt_of_lt_of_le hb2 HB4.out.size) HK.out.1.size⟩
          case measure =>
            unfold impl_workdays.mu
            rcases HST.out with h | h <;> subst h <;> simp [intOf] <;> omega
        · gi_wp2
          refine bodyPost_ret (results_none rfl _ _ _) rfl ?_
          exact ⟨⟨_, rfl⟩, .inr ⟨pre ++ [d], by rw [HLL.out]; exact ⟨r, by simp⟩, hJx3⟩⟩
    · rw [if_neg hd] at hL2
      obtain rfl := Option.some.inj hL2
      rw [List.append_nil] at hLL
      obtain rfl := hLL
      have hi : impl_isDay.f d = some false := by rw [impl_workdays.isDay, decide_eq_false hd]
      have HI := Lib.hid hi
      clear hi hd
      gi_wp2_with (refine ⟨trivial, ?_⟩; gi_at_call 29; refine (callsIn_wide.2 (impl_isDay.calls d false _ HI.out)).mono ?_; rintro e w' ⟨rfl, ⟨nd, rfl⟩⟩)
      go_end0
      exact ⟨⟨_, rfl⟩, .inl ⟨LL, rfl, abides_below HJ.out hJ1 (pw_below_drewN (Below.refl _ _) nd)⟩⟩
theorem blk_own {W W' : World} {g : Nat} {cs : Array Value} {ty : TypeId} {m : Nat × Nat} {row : Option Nat} (h : W.heap[g]? = some (.cells cs ty m)) (hg : W.grownBy W' row) (hr : ∀ r, row = some r → ∃ o : Obj, W.heap[r]? = some o ∧ o.isCells = false) : W'.heap[g]? = some (.cells cs ty m) := by
  refine blk_grown h hg ?_
  intro e
  obtain ⟨o, ho, hc⟩ := hr g e.symm
  rw [h] at ho
  injection ho with ho
  subst ho
  cases hc
theorem wd_keeps_t {n₀ bc bs : Nat} {A B C : World} (h : impl_workdays.Keeps n₀ bc bs A B) (k : impl_workdays.Keeps n₀ bc bs B C) : impl_workdays.Keeps n₀ bc bs A C := ⟨h.1.trans k.1, fun i => (k.2.1 i).trans (h.2.1 i), fun i => (k.2.2 i).trans (h.2.2 i)⟩
theorem wd_keeps_b {n₀ bc bs : Nat} {w : World} (hn : n₀ ≤ w.heap.size) (hbc : bc < w.heap.size) (hbs : bs < w.heap.size) (W : World) (l : Nat) (o o' : Obj) (hl : w.heap.size ≤ l) (h : W.heap[l]? = some o) (q1 : o.isCells = false) (q2 : o.isWalk = false) : impl_workdays.Keeps n₀ bc bs W (W.putObj l o') :=
  ⟨belowK_b (w := w) hn W l o o' hl h q1 q2, fun i => World.cell?_of_block (show (W.putObj l o').heap[bc]? = W.heap[bc]? from World.putObj_heap_other (by omega)), fun i => World.cell?_of_block (show (W.putObj l o').heap[bs]? = W.heap[bs]? from World.putObj_heap_other (by omega))⟩
theorem wd_keeps_set {n₀ bc bs g : Nat} (W : World) (v : Value) (hn : n₀ ≤ g) (h1 : bc ≠ g) (h2 : bs ≠ g) : impl_workdays.Keeps n₀ bc bs W (W.setCell ⟨g, 0, none⟩ v) :=
  ⟨(Below.refl _ W).setCell hn _, fun i => World.cell?_of_block (Below.heap_setCell W ⟨g, 0, none⟩ v bc h1), fun i => World.cell?_of_block (Below.heap_setCell W ⟨g, 0, none⟩ v bs h2)⟩
/-- What the loop's own variables hold: the result's and what is left. -/
structure AwW (n0 g9 : Nat) (v6 v9 : Int) (W : World) : Prop where
  c6 : W.heap[n0 + 1]? = some (.cells #[.int .i64 v6] 3 (0, 0))
  c9 : W.heap[g9]? = some (.cells #[.int .i64 v9] 3 (0, 0))
theorem AwW.own {n0 g9 : Nat} {v6 v9 : Int} {W W' : World} {row : Option Nat} (h : AwW n0 g9 v6 v9 W) (hg : W.grownBy W' row) (hr : ∀ r, row = some r → ∃ o : Obj, W.heap[r]? = some o ∧ o.isCells = false) : AwW n0 g9 v6 v9 W' := ⟨blk_own h.c6 hg hr, blk_own h.c9 hg hr⟩
theorem AwW.set6 {n0 g9 : Nat} {v6 v9 : Int} {W : World} (h : AwW n0 g9 v6 v9 W) (hn : n0 + 1 < g9) (x : Int) : AwW n0 g9 x v9 (W.setCell ⟨n0 + 1, 0, none⟩ (.int .i64 x)) := ⟨blk_put h.c6 0 _ rfl, blk_far h.c9 (show g9 ≠ n0 + 1 by omega) _⟩
theorem AwW.set9 {n0 g9 : Nat} {v6 v9 : Int} {W : World} (h : AwW n0 g9 v6 v9 W) (hn : n0 + 1 < g9) (x : Int) : AwW n0 g9 v6 x (W.setCell ⟨g9, 0, none⟩ (.int .i64 x)) := ⟨blk_far h.c6 (show n0 + 1 ≠ g9 by omega) _, blk_put h.c9 0 _ rfl⟩
theorem impl_workdays.between (d a b : Int) : impl_between.f d a b = some (decide (a ≤ d ∧ d ≤ b)) := by
  unfold impl_between.f
  by_cases h : d ≥ a
  · rw [if_pos h]; congr 1; rw [decide_eq_decide]; omega
  · rw [if_neg h]; congr 1; symm; rw [decide_eq_false_iff_not]; omega
theorem aw_first {w w1 : World} {cs : Array Value} {t : TypeId} {v : Value} (h : Below ((w.alloc (.cells cs t (0, 0))).alloc (.cells #[v] 3 (0, 0))).heap.size ((w.alloc (.cells cs t (0, 0))).alloc (.cells #[v] 3 (0, 0))) w1) :
    w1.heap[w.heap.size]? = some (.cells cs t (0, 0)) ∧ w1.heap[w.heap.size + 1]? = some (.cells #[v] 3 (0, 0)) ∧ w.heap.size + 1 < w1.heap.size ∧ Below w.heap.size w w1 := by
  have B1 := blk_new (w.alloc (.cells cs t (0, 0))) (.cells #[v] 3 (0, 0))
  rw [World.size_alloc] at B1
  have hB := below_alloc (below_alloc (Below.refl w.heap.size w) (.cells cs t (0, 0))) (.cells #[v] 3 (0, 0))
  refine ⟨blk_below (blk_alloc (blk_new _ _) _) h, blk_below B1 h, ?_, hB.trans (h.mono hB.size)⟩
  have := h.size
  simp at this
  omega
theorem aw_cut {w w1 : World} {cs : Array Value} {t : TypeId} {x v : Int} (h : w1.heap[w.heap.size]? = some (.cells cs t (0, 0)) ∧ w1.heap[w.heap.size + 1]? = some (.cells #[.int .i64 x] 3 (0, 0)) ∧ w.heap.size + 1 < w1.heap.size ∧ Below w.heap.size w w1) :
    (w1.alloc (.cells #[.int .i64 v] 3)).heap[w.heap.size]? = some (.cells cs t (0, 0)) ∧ AwW w.heap.size w1.heap.size x v (w1.alloc (.cells #[.int .i64 v] 3)) ∧ Below w.heap.size w (w1.alloc (.cells #[.int .i64 v] 3)) :=
  ⟨blk_alloc h.1 _, ⟨blk_alloc h.2.1 _, blk_new _ _⟩, below_alloc h.2.2.2 _⟩
structure CwSt where
  n : Int
  k : Nat
def CwSt.step (hi : Int) (st : CwSt) (x : Int) : CwSt := if st.k ≠ 0 then st else if hi < x then ⟨st.n, 2⟩ else ⟨wrap64 (st.n + 1), 0⟩
def CwSt.run (hi : Int) (xs : List Int) : CwSt := xs.foldl (CwSt.step hi) ⟨0, 0⟩
theorem CwSt.run_snoc (hi : Int) (pre : List Int) (x : Int) : CwSt.run hi (pre ++ [x]) = CwSt.step hi (CwSt.run hi pre) x := by simp [CwSt.run, List.foldl_append]
theorem CwSt.foldl_done (hi : Int) (st : CwSt) (h : st.k ≠ 0) (xs : List Int) : xs.foldl (CwSt.step hi) st = st := by
  induction xs with
  | nil => rfl
  | cons x xs ih => rw [List.foldl_cons, show CwSt.step hi st x = st by unfold CwSt.step; rw [if_pos h], ih]
theorem CwSt.run_pre {hi : Int} {pre L : List Int} (hp : pre <+: L) {st : CwSt} (he : CwSt.run hi pre = st) (h : st.k ≠ 0) : CwSt.run hi L = st := by
  obtain ⟨r, rfl⟩ := hp
  unfold CwSt.run at he ⊢
  rw [List.foldl_append, he]
  exact CwSt.foldl_done hi _ h r
theorem CwSt.step_stop {hi n x : Int} (h : hi < x) : CwSt.step hi ⟨n, 0⟩ x = ⟨n, 2⟩ := by
  unfold CwSt.step; rw [if_neg (by simp), if_pos h]
theorem CwSt.step_on {hi n x : Int} (h : ¬ hi < x) : CwSt.step hi ⟨n, 0⟩ x = ⟨wrap64 (n + 1), 0⟩ := by
  unfold CwSt.step; rw [if_neg (by simp), if_neg h]
def cwLo (a b : Int) : Int := if b < a then b else a
def cwHi (a b : Int) : Int := if b < a then a else b
def cwSign (a b : Int) : Int := if b < a then -1 else 1
def impl_CountWork.f (k : Nat) (a0_0 : Int) (l0_1 : List Int) (a1 : Int) (a2 : Int) : Option (Int) :=
  (impl_CalOk.f k a0_0 l0_1).bind fun t1 => if t1 = true ∧ (0 ≤ a1 ∧ a1 ≤ 40000) ∧ (0 ≤ a2 ∧ a2 ≤ 40000) then ((impl_workdays.L k a0_0 l0_1 1 k (cwLo a1 a2 + 1)).bind fun xs => some (wrap64 (cwSign a1 a2 * (CwSt.run (cwHi a1 a2) xs).n))) else some 0
set_option maxHeartbeats 8000000 in
set_option maxRecDepth 1000000 in
theorem impl_CountWork.calls (k : Nat) (a0_0 : Int) (A0_1 : Option Addr) (c0_1 : Nat) (l0_1 : List Int) (a1 : Int) (a2 : Int) (r : Int) (w : World) (hr0_1 : Kd.C (Kd.int .i64) w A0_1 l0_1.length l0_1) (hc0_1 : l0_1.length ≤ c0_1) (h : impl_CountWork.f k a0_0 l0_1 a1 a2 = some r) :
    Calls Try.prog 12 #[.agg #[.int .i64 a0_0, .slice A0_1 l0_1.length c0_1], .int .i64 a1, .int .i64 a2] w fun e w' => e = .returned (.int .i64 r) ∧ Below w.heap.size w w' := by
  unfold impl_CountWork.f at h
  obtain ⟨t1, A1, h⟩ := Option.bind_eq_some_iff.mp h
  refine callsIn_wide.1 (show CallsIn Fence.wide 9 _ _ _ _ _ from callsIn_of_wp_marks Try.func12 rfl trivial ?_ rfl)
  refine wpIn_wide.2 ?_
  simp only [Try.ntmps12, List.size_toArray, List.length_cons, List.length_nil, Nat.reduceAdd, Nat.reduceSub, Array.replicate_succ, Array.replicate_zero, List.push_toArray, List.append_toArray, List.nil_append, List.cons_append]
  have HC := Lib.hid hr0_1
  have HA := Lib.hid A1
  clear hr0_1 A1
  by_cases hall : t1 = true ∧ (0 ≤ a1 ∧ a1 ≤ 40000) ∧ (0 ≤ a2 ∧ a2 ≤ 40000)
  · rw [if_pos hall] at h
    obtain ⟨xs, hx, h⟩ := Option.bind_eq_some_iff.mp h
    obtain ⟨rfl, ⟨p1, p2⟩, ⟨p3, p4⟩⟩ := hall
    have HRes := Lib.hid (Option.some.inj h)
    have HX := Lib.hid hx
    clear h hx
    go_upto_if 25 with (first | (go_at_call 28; (with_reducible refine (impl_CalOk.calls k a0_0 A0_1 c0_1 l0_1 true _ (Kd.C_alloc (Kd.C_alloc HC.out _) _) hc0_1 HA.out).mono ?_); rintro e w1 ⟨rfl, hb1⟩; have HB1 := Lib.hid (aw_first hb1); clear hb1; have e0 : w1.cell? ⟨w.heap.size, 0, none⟩ = some (.int .i64 a0_0) := blk_cell HB1.out.1 0; have e1 : w1.cell? ⟨w.heap.size, 1, none⟩ = some (.slice A0_1 l0_1.length c0_1) := blk_cell HB1.out.1 1; have e6 : w1.cell? ⟨w.heap.size + 1, 0, none⟩ = some (.int .i64 a2) := blk_cell HB1.out.2.1 0; have f6 : w1.frozen? ⟨w.heap.size + 1, 0, none⟩ = false := blk_frozen HB1.out.2.1 0; have ha0 : ∀ o : Obj, (w1.alloc o).cell? ⟨w.heap.size, 0, none⟩ = some (.int .i64 a0_0) := fun o => blk_cell (blk_alloc HB1.out.1 o) 0; have ha1 : ∀ o : Obj, (w1.alloc o).cell? ⟨w.heap.size, 1, none⟩ = some (.slice A0_1 l0_1.length c0_1) := fun o => blk_cell (blk_alloc HB1.out.1 o) 1) | (go_at_call 29; go_in) | (go_at_call 21; go_in) | (go_at_call 30; go_in))
    go_cut [1, 7] from 10 (fun v1 v7 wc => v1 = .int .i64 (cwLo a1 a2) ∧ v7 = .int .i64 (cwSign a1 a2) ∧ Hid (wc.heap[w.heap.size]? = some (.cells #[.int .i64 a0_0, .slice A0_1 l0_1.length c0_1] 34 (0, 0)) ∧ wc.heap[w.heap.size + 1]? = some (.cells #[.int .i64 (cwHi a1 a2)] 3 (0, 0)) ∧ w.heap.size + 1 < wc.heap.size ∧ Below w.heap.size w wc))
    case first =>
      by_cases c1 : a2 < a1
      · go_wp2
        go_meet
        case rel => exact ⟨by rw [cwLo, if_pos c1], by rw [cwSign, if_pos c1], by rw [cwHi, if_pos c1]; exact ⟨blk_far HB1.out.1 (show w.heap.size ≠ w.heap.size + 1 by omega) _, blk_put HB1.out.2.1 0 _ rfl, by have := HB1.out.2.2.1; simp; omega, below_set HB1.out.2.2.2 (by omega)⟩⟩
      · go_wp2
        go_meet
        case rel => exact ⟨by rw [cwLo, if_neg (show ¬ a2 < a1 by omega)], by rw [cwSign, if_neg (show ¬ a2 < a1 by omega)], by rw [cwHi, if_neg (show ¬ a2 < a1 by omega)]; exact HB1.out⟩
    case rest =>
      obtain ⟨rfl, rfl, G⟩ := hcut
      have hd0 : wc.cell? ⟨w.heap.size, 0, none⟩ = some (.int .i64 a0_0) := blk_cell G.out.1 0
      have hd1 : wc.cell? ⟨w.heap.size, 1, none⟩ = some (.slice A0_1 l0_1.length c0_1) := blk_cell G.out.1 1
      have ha0' : ∀ o : Obj, (wc.alloc o).cell? ⟨w.heap.size, 0, none⟩ = some (.int .i64 a0_0) := fun o => blk_cell (blk_alloc G.out.1 o) 0
      have ha1' : ∀ o : Obj, (wc.alloc o).cell? ⟨w.heap.size, 1, none⟩ = some (.slice A0_1 l0_1.length c0_1) := fun o => blk_cell (blk_alloc G.out.1 o) 1
      have q1 : 0 ≤ cwLo a1 a2 := by unfold cwLo; split <;> assumption
      have q2 : cwLo a1 a2 ≤ 40000 := by unfold cwLo; split <;> assumption
      clear HB1 e0 e1 e6 f6 ha0 ha1
      go_wp2_with (go_at_call 30; go_in)
      simp only [Array.getD_eq_getD_getElem?, List.getElem?_toArray, List.getElem?_cons_succ, List.getElem?_cons_zero, Option.getD_some]
      clear hd0 hd1 ha0' ha1'
      have D5 : AwW w.heap.size wc.heap.size (cwHi a1 a2) 0 ((((wc.alloc (.cells #[.int .i64 0] 3)).alloc (.cells #[.int .i64 a0_0, .slice A0_1 l0_1.length c0_1] 34)).alloc (.cells #[.int .i64 (cwLo a1 a2 + 1)] 3)).alloc (.cells #[.int .i64 1] 3)) := ⟨blk_alloc (blk_alloc (blk_alloc (blk_alloc G.out.2.1 _) _) _) _, blk_alloc (blk_alloc (blk_alloc (blk_new _ _) _) _) _⟩
      have Dc := blk_alloc (blk_alloc (blk_new (wc.alloc (.cells #[.int .i64 0] 3 (0, 0))) (.cells #[.int .i64 a0_0, .slice A0_1 l0_1.length c0_1] 34 (0, 0))) (.cells #[.int .i64 (cwLo a1 a2 + 1)] 3 (0, 0))) (.cells #[.int .i64 1] 3 (0, 0))
      have Df := blk_alloc (blk_new ((wc.alloc (.cells #[.int .i64 0] 3 (0, 0))).alloc (.cells #[.int .i64 a0_0, .slice A0_1 l0_1.length c0_1] 34 (0, 0))) (.cells #[.int .i64 (cwLo a1 a2 + 1)] 3 (0, 0))) (.cells #[.int .i64 1] 3 (0, 0))
      have Ds := blk_new (((wc.alloc (.cells #[.int .i64 0] 3 (0, 0))).alloc (.cells #[.int .i64 a0_0, .slice A0_1 l0_1.length c0_1] 34 (0, 0))).alloc (.cells #[.int .i64 (cwLo a1 a2 + 1)] 3 (0, 0))) (.cells #[.int .i64 1] 3 (0, 0))
      rw [World.size_alloc] at Dc
      rw [World.size_alloc, World.size_alloc] at Df
      rw [World.size_alloc, World.size_alloc, World.size_alloc] at Ds
      have HB2 := Lib.hid (below_alloc (below_alloc (below_alloc (below_alloc G.out.2.2.2 (.cells #[.int .i64 0] 3 (0, 0))) (.cells #[.int .i64 a0_0, .slice A0_1 l0_1.length c0_1] 34 (0, 0))) (.cells #[.int .i64 (cwLo a1 a2 + 1)] 3 (0, 0))) (.cells #[.int .i64 1] 3 (0, 0)))
      generalize hW1 : World.alloc (World.alloc (World.alloc (World.alloc wc _) _) _) _ = W1 at D5 Dc Df Ds HB2
      have HLT := Lib.hid G.out.2.2.1
      refine wpIn_wide.1 (show Code.wpIn Fence.wide 9 _ _ _ _ _ from ?_)
      refine wpIn_rangeFunc_ownF (F := Fence.wide) (n := 9) rfl (by omega) (gf := 34) (lb := #[.pointer (some ⟨wc.heap.size + 1 + 1, 0, none⟩), .pointer (some ⟨wc.heap.size + 1 + 1 + 1, 0, none⟩), .pointer (some ⟨wc.heap.size + 1, 0, none⟩)]) rfl trivial (enters_of Try.func34 (by kernel_rfl) rfl)
        (impl_workdays.iter 8 (by omega) k (wc.heap.size + 1 + 1) (wc.heap.size + 1 + 1 + 1) (wc.heap.size + 1) a0_0 l0_1 A0_1 c0_1 k 1 (cwLo a1 a2 + 1) xs (.inl rfl) (by omega) (by omega) hc0_1 w W1 HX.out HC.out HB2.out (blk_cell Df 0) (blk_cell Ds 0) (blk_cell Dc 0) (blk_cell Dc 1) (blk_lt Df) (blk_lt Ds) (blk_lt Dc))
        wd_keeps_t (wd_keeps_b HB2.out.size (blk_lt Dc) (blk_lt Ds)) (Below.refl _ _) (fun _ => rfl)
        (fun pre W => (∃ n : Int, CwSt.run (cwHi a1 a2) pre = ⟨n, 0⟩ ∧ AwW w.heap.size wc.heap.size (cwHi a1 a2) n W) ∧ Below w.heap.size w W)
        (fun c pre W => (∃ n : Int, CwSt.run (cwHi a1 a2) pre = ⟨n, 2⟩ ∧ c = .exit 0 ∧ AwW w.heap.size wc.heap.size (cwHi a1 a2) n W) ∧ Below w.heap.size w W)
        (OwnFrom.and (Own.from (fun s A B row hs hg hr => by obtain ⟨n, h1, h2⟩ := hs; exact ⟨n, h1, h2.own hg hr⟩) _) (ownFrom_below (Nat.le_refl _) HB2.out.size))
        (fun c => OwnFrom.and (Own.from (fun s A B row hs hg hr => by obtain ⟨n, h1, e1, h3⟩ := hs; exact ⟨n, h1, e1, h3.own hg hr⟩) _) (ownFrom_below (Nat.le_refl _) HB2.out.size))
        ⟨⟨_, rfl, D5⟩, HB2.out⟩
        (fun x => { tmps := #[.agg #[.int .i64 a0_0, .slice A0_1 l0_1.length c0_1], .int .i64 (cwLo a1 a2), .int .i64 a2, .pointer (some ⟨w.heap.size, 0, none⟩), undef, .pointer (some ⟨w.heap.size + 1, 0, none⟩), .int .i64 0, .int .i64 (cwSign a1 a2), .pointer (some ⟨wc.heap.size, 0, none⟩), .int .i64 x, u10, u11, u12, u13, u14, u15, u16, u17, u18, u19, u20, u21, u22, u23, u24, u25, u26, u27, .agg #[.int .i64 a0_0, .slice A0_1 l0_1.length c0_1], .int .i64 (cwLo a1 a2), .int .i64 (cwLo a1 a2 + 1), .func (.func 34) #[] #[.pointer (some ⟨wc.heap.size + 1 + 1, 0, none⟩), .pointer (some ⟨wc.heap.size + 1 + 1 + 1, 0, none⟩), .pointer (some ⟨wc.heap.size + 1, 0, none⟩)], .int .i64 x, u33, u34, u35, u36, u37, u38, u39, u40], defers := [] }) ?assign ?body ?done ?stop
      case assign =>
        intro l x W K hK
        gi_wp2
        exact hK
      case body =>
        rintro ll pre x W ⟨⟨n, hrun, hO⟩, hB⟩ _
        have HR := Lib.hid hrun
        clear hrun
        have e6 : W.cell? ⟨w.heap.size + 1, 0, none⟩ = some (.int .i64 (cwHi a1 a2)) := blk_cell hO.c6 0
        have e9 : W.cell? ⟨wc.heap.size, 0, none⟩ = some (.int .i64 n) := blk_cell hO.c9 0
        have f9 : W.frozen? ⟨wc.heap.size, 0, none⟩ = false := blk_frozen hO.c9 0
        have n1 : ¬ w.heap.size + 1 = wc.heap.size := by have := HLT.out; omega
        have n2 : ¬ wc.heap.size = w.heap.size + 1 := by have := HLT.out; omega
        have HO := Lib.hid hO
        have HB9 := Lib.hid hB
        clear hO hB
        by_cases h1 : cwHi a1 a2 < x
        · gi_wp2
          exact ⟨KeepsOthers.refl _, ⟨_, by rw [CwSt.run_snoc, HR.out, CwSt.step_stop h1], rfl, HO.out⟩, HB9.out⟩
        · gi_wp2
          refine ⟨KeepsOthers.setCell _ _ _, wd_keeps_set _ _ ?_ ?_ ?_, ⟨_, by rw [CwSt.run_snoc, HR.out, CwSt.step_on (show ¬ cwHi a1 a2 < x by omega)], HO.out.set9 HLT.out (wrap64 (n + 1))⟩, below_set HB9.out ?_⟩
          all_goals (have := HLT.out; omega)
      case done =>
        rintro D ys W hD rfl ⟨⟨n, hr, hO⟩, hB⟩ hK
        have e9 : W.cell? ⟨wc.heap.size, 0, none⟩ = some (.int .i64 n) := blk_cell hO.c9 0
        have HB9 := Lib.hid hB
        have HK := Lib.hid hK
        obtain rfl : wrap64 (cwSign a1 a2 * n) = r := by have e := HRes.out; rw [hr] at e; exact e
        clear hO hB hK hr HRes
        go_wp2
        refine ⟨by simp, .inl ⟨_, _, rfl, run_takeDeferred HK.out, ?_⟩⟩
        exact ⟨_, results_tmp rfl _ _ _, rfl, HB9.out.trans (belowK_b (w := w) (Nat.le_refl _) W D _ _ (Nat.le_trans HB2.out.size hD) HK.out rfl rfl)⟩
      case stop =>
        rintro D c pre W hD hpre ⟨⟨n, hr, rfl, hO⟩, hB⟩ hK
        have e9 : W.cell? ⟨wc.heap.size, 0, none⟩ = some (.int .i64 n) := blk_cell hO.c9 0
        have HB9 := Lib.hid hB
        have HK := Lib.hid hK
        obtain rfl : wrap64 (cwSign a1 a2 * n) = r := by have e := HRes.out; rw [CwSt.run_pre hpre hr (by simp)] at e; exact e
        clear hO hB hK hr HRes
        gi_wp2
        go_wp2
        refine ⟨by simp, .inl ⟨_, _, rfl, run_takeDeferred HK.out, ?_⟩⟩
        exact ⟨_, results_tmp rfl _ _ _, rfl, HB9.out.trans (belowK_b (w := w) (Nat.le_refl _) W D _ _ (Nat.le_trans HB2.out.size hD) HK.out rfl rfl)⟩
  · rw [if_neg hall] at h
    obtain rfl := Option.some.inj h
    clear h
    cases t1
    · go_wp2_with (first | (go_at_call 28; (with_reducible refine (impl_CalOk.calls k a0_0 A0_1 c0_1 l0_1 false _ (Kd.C_alloc (Kd.C_alloc HC.out _) _) hc0_1 HA.out).mono ?_); rintro e w1 ⟨rfl, hb1⟩; have HB1 := Lib.hid (aw_first hb1); clear hb1; have e0 : w1.cell? ⟨w.heap.size, 0, none⟩ = some (.int .i64 a0_0) := blk_cell HB1.out.1 0; have e1 : w1.cell? ⟨w.heap.size, 1, none⟩ = some (.slice A0_1 l0_1.length c0_1) := blk_cell HB1.out.1 1; have e6 : w1.cell? ⟨w.heap.size + 1, 0, none⟩ = some (.int .i64 a2) := blk_cell HB1.out.2.1 0; have f6 : w1.frozen? ⟨w.heap.size + 1, 0, none⟩ = false := blk_frozen HB1.out.2.1 0; have ha0 : ∀ o : Obj, (w1.alloc o).cell? ⟨w.heap.size, 0, none⟩ = some (.int .i64 a0_0) := fun o => blk_cell (blk_alloc HB1.out.1 o) 0; have ha1 : ∀ o : Obj, (w1.alloc o).cell? ⟨w.heap.size, 1, none⟩ = some (.slice A0_1 l0_1.length c0_1) := fun o => blk_cell (blk_alloc HB1.out.1 o) 1) | (go_at_call 29; go_in) | (go_at_call 21; go_in) | (go_at_call 30; go_in))
      exact ⟨_, results_tmp rfl _ _ _, rfl, HB1.out.2.2.2⟩
    · by_cases c1 : 0 ≤ a1 ∧ a1 ≤ 40000
      · have c2 : ¬ (0 ≤ a2 ∧ a2 ≤ 40000) := fun h => hall ⟨rfl, c1, h⟩
        obtain ⟨p1, p2⟩ := c1
        by_cases c3 : 0 ≤ a2
        · have c4 : ¬ a2 ≤ 40000 := fun h => c2 ⟨c3, h⟩
          have c5 : decide (a2 ≤ 40000) = false := decide_eq_false c4
          go_wp2_with (first | (go_at_call 28; (with_reducible refine (impl_CalOk.calls k a0_0 A0_1 c0_1 l0_1 true _ (Kd.C_alloc (Kd.C_alloc HC.out _) _) hc0_1 HA.out).mono ?_); rintro e w1 ⟨rfl, hb1⟩; have HB1 := Lib.hid (aw_first hb1); clear hb1; have e0 : w1.cell? ⟨w.heap.size, 0, none⟩ = some (.int .i64 a0_0) := blk_cell HB1.out.1 0; have e1 : w1.cell? ⟨w.heap.size, 1, none⟩ = some (.slice A0_1 l0_1.length c0_1) := blk_cell HB1.out.1 1; have e6 : w1.cell? ⟨w.heap.size + 1, 0, none⟩ = some (.int .i64 a2) := blk_cell HB1.out.2.1 0; have f6 : w1.frozen? ⟨w.heap.size + 1, 0, none⟩ = false := blk_frozen HB1.out.2.1 0; have ha0 : ∀ o : Obj, (w1.alloc o).cell? ⟨w.heap.size, 0, none⟩ = some (.int .i64 a0_0) := fun o => blk_cell (blk_alloc HB1.out.1 o) 0; have ha1 : ∀ o : Obj, (w1.alloc o).cell? ⟨w.heap.size, 1, none⟩ = some (.slice A0_1 l0_1.length c0_1) := fun o => blk_cell (blk_alloc HB1.out.1 o) 1) | (go_at_call 29; go_in) | (go_at_call 21; go_in) | (go_at_call 30; go_in))
          exact ⟨_, results_tmp rfl _ _ _, rfl, HB1.out.2.2.2⟩
        · go_wp2_with (first | (go_at_call 28; (with_reducible refine (impl_CalOk.calls k a0_0 A0_1 c0_1 l0_1 true _ (Kd.C_alloc (Kd.C_alloc HC.out _) _) hc0_1 HA.out).mono ?_); rintro e w1 ⟨rfl, hb1⟩; have HB1 := Lib.hid (aw_first hb1); clear hb1; have e0 : w1.cell? ⟨w.heap.size, 0, none⟩ = some (.int .i64 a0_0) := blk_cell HB1.out.1 0; have e1 : w1.cell? ⟨w.heap.size, 1, none⟩ = some (.slice A0_1 l0_1.length c0_1) := blk_cell HB1.out.1 1; have e6 : w1.cell? ⟨w.heap.size + 1, 0, none⟩ = some (.int .i64 a2) := blk_cell HB1.out.2.1 0; have f6 : w1.frozen? ⟨w.heap.size + 1, 0, none⟩ = false := blk_frozen HB1.out.2.1 0; have ha0 : ∀ o : Obj, (w1.alloc o).cell? ⟨w.heap.size, 0, none⟩ = some (.int .i64 a0_0) := fun o => blk_cell (blk_alloc HB1.out.1 o) 0; have ha1 : ∀ o : Obj, (w1.alloc o).cell? ⟨w.heap.size, 1, none⟩ = some (.slice A0_1 l0_1.length c0_1) := fun o => blk_cell (blk_alloc HB1.out.1 o) 1) | (go_at_call 29; go_in) | (go_at_call 21; go_in) | (go_at_call 30; go_in))
          exact ⟨_, results_tmp rfl _ _ _, rfl, HB1.out.2.2.2⟩
      · by_cases c3 : 0 ≤ a1
        · have c4 : ¬ a1 ≤ 40000 := fun h => c1 ⟨c3, h⟩
          have c5 : decide (a1 ≤ 40000) = false := decide_eq_false c4
          go_wp2_with (first | (go_at_call 28; (with_reducible refine (impl_CalOk.calls k a0_0 A0_1 c0_1 l0_1 true _ (Kd.C_alloc (Kd.C_alloc HC.out _) _) hc0_1 HA.out).mono ?_); rintro e w1 ⟨rfl, hb1⟩; have HB1 := Lib.hid (aw_first hb1); clear hb1; have e0 : w1.cell? ⟨w.heap.size, 0, none⟩ = some (.int .i64 a0_0) := blk_cell HB1.out.1 0; have e1 : w1.cell? ⟨w.heap.size, 1, none⟩ = some (.slice A0_1 l0_1.length c0_1) := blk_cell HB1.out.1 1; have e6 : w1.cell? ⟨w.heap.size + 1, 0, none⟩ = some (.int .i64 a2) := blk_cell HB1.out.2.1 0; have f6 : w1.frozen? ⟨w.heap.size + 1, 0, none⟩ = false := blk_frozen HB1.out.2.1 0; have ha0 : ∀ o : Obj, (w1.alloc o).cell? ⟨w.heap.size, 0, none⟩ = some (.int .i64 a0_0) := fun o => blk_cell (blk_alloc HB1.out.1 o) 0; have ha1 : ∀ o : Obj, (w1.alloc o).cell? ⟨w.heap.size, 1, none⟩ = some (.slice A0_1 l0_1.length c0_1) := fun o => blk_cell (blk_alloc HB1.out.1 o) 1) | (go_at_call 29; go_in) | (go_at_call 21; go_in) | (go_at_call 30; go_in))
          exact ⟨_, results_tmp rfl _ _ _, rfl, HB1.out.2.2.2⟩
        · go_wp2_with (first | (go_at_call 28; (with_reducible refine (impl_CalOk.calls k a0_0 A0_1 c0_1 l0_1 true _ (Kd.C_alloc (Kd.C_alloc HC.out _) _) hc0_1 HA.out).mono ?_); rintro e w1 ⟨rfl, hb1⟩; have HB1 := Lib.hid (aw_first hb1); clear hb1; have e0 : w1.cell? ⟨w.heap.size, 0, none⟩ = some (.int .i64 a0_0) := blk_cell HB1.out.1 0; have e1 : w1.cell? ⟨w.heap.size, 1, none⟩ = some (.slice A0_1 l0_1.length c0_1) := blk_cell HB1.out.1 1; have e6 : w1.cell? ⟨w.heap.size + 1, 0, none⟩ = some (.int .i64 a2) := blk_cell HB1.out.2.1 0; have f6 : w1.frozen? ⟨w.heap.size + 1, 0, none⟩ = false := blk_frozen HB1.out.2.1 0; have ha0 : ∀ o : Obj, (w1.alloc o).cell? ⟨w.heap.size, 0, none⟩ = some (.int .i64 a0_0) := fun o => blk_cell (blk_alloc HB1.out.1 o) 0; have ha1 : ∀ o : Obj, (w1.alloc o).cell? ⟨w.heap.size, 1, none⟩ = some (.slice A0_1 l0_1.length c0_1) := fun o => blk_cell (blk_alloc HB1.out.1 o) 1) | (go_at_call 29; go_in) | (go_at_call 21; go_in) | (go_at_call 30; go_in))
          exact ⟨_, results_tmp rfl _ _ _, rfl, HB1.out.2.2.2⟩
theorem impl_workdays.mono (off : Int) (l : List Int) (step : Int) : ∀ (n k : Nat) (d : Int), LeO (impl_workdays.L k off l step n d) (impl_workdays.L (k + 1) off l step (n + 1) d)
  | 0, _, _ => LeO.none _
  | n + 1, k, d => LeO.ite (LeO.bind (impl_works.mono _ _ _ _) fun b => LeO.bind (impl_workdays.mono off l step n k (d + step)) fun r => LeO.refl _) (LeO.refl _)
theorem impl_CountWork.mono : ∀ a0 a1 a2 a3 k, LeO (impl_CountWork.f k a0 a1 a2 a3) (impl_CountWork.f (k + 1) a0 a1 a2 a3) := fun a0 a1 a2 a3 k =>
  LeO.bind (impl_CalOk.mono _ _ _) fun t => LeO.ite (LeO.bind (impl_workdays.mono _ _ _ _ _ _) fun _ => LeO.refl _) (LeO.refl _)
end

/-! ### laws_eqIntS: function 31 -/
def laws_eqIntS.l0 : Nat → List Int → List Int → Int → Option (Bool)
  | 0, _, _, _ => none
  | k + 1, x0, x1, x5 => if x5 < (x0.length : Int) then (if 0 ≤ x5 then (if x5 < (x1.length : Int) then (if (rd x0 x5) = (rd x1 x5) then (laws_eqIntS.l0 k x0 x1 (wrap64 (x5 + 1))) else (some false)) else (none)) else (none)) else (some true)
def laws_eqIntS.f (k : Nat) (l0 : List Int) (l1 : List Int) : Option (Bool) := if (l0.length : Int) = (l1.length : Int) then (laws_eqIntS.l0 k l0 l1 0) else (some false)
theorem laws_eqIntS.mono_l : ∀ k, (∀ y0 y1 y2, LeO (laws_eqIntS.l0 k y0 y1 y2) (laws_eqIntS.l0 (k + 1) y0 y1 y2))
  | 0 => fun _ _ _ r h => by simp [laws_eqIntS.l0] at h
  | k + 1 => by
    have ih0 := laws_eqIntS.mono_l k
    · intro y0 y1 y2
      unfold laws_eqIntS.l0
      repeat' first
      | (with_reducible exact ih0 _ _ _)
      | (with_reducible exact LeO.refl _)
      | (with_reducible exact LeO.none _)
      | (with_reducible refine LeO.ite ?_ ?_)
      | (with_reducible refine LeO.bind ?_ (fun _ => ?_))
      | exact ih0 _ _ _
      | exact LeO.none _
      | refine LeO.ite ?_ ?_
      | refine LeO.bind ?_ (fun _ => ?_)
theorem laws_eqIntS.mono : ∀ a0 a1 k, LeO (laws_eqIntS.f k a0 a1) (laws_eqIntS.f (k + 1) a0 a1) := by
  intro a0 a1 k
  have ih0 := laws_eqIntS.mono_l k
  unfold laws_eqIntS.f
  repeat' first
      | (with_reducible exact ih0 _ _ _)
      | (with_reducible exact LeO.refl _)
      | (with_reducible exact LeO.none _)
      | (with_reducible refine LeO.ite ?_ ?_)
      | (with_reducible refine LeO.bind ?_ (fun _ => ?_))
      | exact ih0 _ _ _
      | exact LeO.none _
      | refine LeO.ite ?_ ?_
      | refine LeO.bind ?_ (fun _ => ?_)
set_option maxHeartbeats 8000000 in
set_option maxRecDepth 100000 in
theorem laws_eqIntS.calls (k : Nat) (A0 : Option Addr) (c0 : Nat) (l0 : List Int) (A1 : Option Addr) (c1 : Nat) (l1 : List Int) (r : Bool) (w : World) (hr0 : Kd.C (Kd.int .i64) w A0 l0.length l0) (hc0 : l0.length ≤ c0) (hr1 : Kd.C (Kd.int .i64) w A1 l1.length l1) (hc1 : l1.length ≤ c1) (h : laws_eqIntS.f k l0 l1 = some r) :
    Calls Try.prog 31 #[.slice A0 l0.length c0, .slice A1 l1.length c1] w fun e w' => e = .returned (.bool r) ∧ Drawn0 w w' := by
  have HR0 := Aside0.mk hr0
  have HC0 := Aside0.mk hc0
  clear hr0 hc0
  have HR1 := Aside0.mk hr1
  have HC1 := Aside0.mk hc1
  clear hr1 hc1
  have H : (if (l0.length : Int) = (l1.length : Int) then (laws_eqIntS.l0 k l0 l1 0) else (some false)) = some r := h
  clear h
  by_cases c3 : (l0.length : Int) = (l1.length : Int)
  · rw [if_pos c3] at H
    have c3b0 : ((l0.length : Int) == (l1.length : Int)) = true := beq_iff_eq.mpr c3
    have c3b1 : ((l0.length : Int) != (l1.length : Int)) = false := bne_eq_false_iff_eq.mpr c3
    have c3b2 : (l0.length == l1.length) = true := by first | simpa using c3 | (simp at c3 ⊢; omega)
    clear c3
    have H' := Aside0.mk H
    clear H
    go_enter Try.func31, Try.ntmps31
    go_wp2
    repeat (go_quiet (fail); try go_wp2)
    go_loopg [5] k (fun kq v5 w' => ∃ (x5_1 : Int), v5 = .int .i64 x5_1 ∧ Aside0 (laws_eqIntS.l0 kq l0 l1 x5_1 = some r) ∧ Aside0 (kq ≤ k) ∧ Drawn0 w w')
    case atStart => exact ⟨(0), (by first | rfl | (simp; done) | (simp [*]; done)), H', ⟨Nat.le_refl _⟩, by repeat (first | exact Drawn0.refl _ | apply Drawn0.step)⟩
    case round =>
      clear H'
      try clear c1
      try clear p2
      try clear c3
      try clear c3b0
      try clear c3b1
      try clear c3b2
      obtain ⟨x5_1, rfl, HA, HK1, ⟨m1, rfl⟩⟩ := hrel
      cases gk with
      | zero => exact absurd HA.out (by simp [laws_eqIntS.l0])
      | succ k1 =>
        have H := HA.out
        clear HA
        simp only [laws_eqIntS.l0] at H
        by_cases c4 : x5_1 < (l0.length : Int)
        · rw [if_pos c4] at H
          have c4b0 : decide (x5_1 < (l0.length : Int)) = true := decide_eq_true c4
          clear c4
          by_cases c5 : 0 ≤ x5_1
          · rw [if_pos c5] at H
            have c5b0 : decide (0 ≤ x5_1) = true := decide_eq_true c5
            clear c5
            by_cases c6 : x5_1 < (l1.length : Int)
            · rw [if_pos c6] at H
              have c6b0 : decide (x5_1 < (l1.length : Int)) = true := decide_eq_true c6
              clear c6
              by_cases c7 : (rd l0 x5_1) = (rd l1 x5_1)
              · rw [if_pos c7] at H
                have c7b0 : ((rd l0 x5_1) == (rd l1 x5_1)) = true := beq_iff_eq.mpr c7
                have c7b1 : ((rd l0 x5_1) != (rd l1 x5_1)) = false := bne_eq_false_iff_eq.mpr c7
                clear c7
                have H' := Aside0.mk H
                clear H
                have p143 : 0 ≤ (x5_1 : Int) := of_decide_eq_true (by first | (with_reducible assumption) | assumption)
                have q143 : x5_1 < (l0.length : Int) := of_decide_eq_true (by first | (with_reducible assumption) | assumption)
                obtain ⟨ad143, e143, hx143_0⟩ := Kd.at_int HR0.out x5_1 p143 q143
                cases e143
                replace p143 := eq_true p143
                replace q143 := eq_true q143
                have p144 : 0 ≤ (x5_1 : Int) := of_decide_eq_true (by first | (with_reducible assumption) | assumption)
                have q144 : x5_1 < (l1.length : Int) := of_decide_eq_true (by first | (with_reducible assumption) | assumption)
                obtain ⟨ad144, e144, hx144_0⟩ := Kd.at_int HR1.out x5_1 p144 q144
                cases e144
                replace p144 := eq_true p144
                replace q144 := eq_true q144
                go_wp2
                repeat (go_quiet (fail); try go_wp2)
                go_roundg k1
                case measure => have := HK1.out; omega
                case rel => exact ⟨(wrap64 (x5_1 + 1)), (by first | rfl | (simp; done) | (simp [*]; done)), H', ⟨by have := HK1.out; omega⟩, by repeat (first | exact Drawn0.refl _ | apply Drawn0.step)⟩
              · rw [if_neg c7] at H
                have c7b0 : ((rd l0 x5_1) == (rd l1 x5_1)) = false := beq_eq_false_iff_ne.mpr c7
                have c7b1 : ((rd l0 x5_1) != (rd l1 x5_1)) = true := bne_iff_ne.mpr c7
                obtain rfl := Option.some.inj H
                have p143 : 0 ≤ (x5_1 : Int) := of_decide_eq_true (by first | (with_reducible assumption) | assumption)
                have q143 : x5_1 < (l0.length : Int) := of_decide_eq_true (by first | (with_reducible assumption) | assumption)
                obtain ⟨ad143, e143, hx143_0⟩ := Kd.at_int HR0.out x5_1 p143 q143
                cases e143
                replace p143 := eq_true p143
                replace q143 := eq_true q143
                have p144 : 0 ≤ (x5_1 : Int) := of_decide_eq_true (by first | (with_reducible assumption) | assumption)
                have q144 : x5_1 < (l1.length : Int) := of_decide_eq_true (by first | (with_reducible assumption) | assumption)
                obtain ⟨ad144, e144, hx144_0⟩ := Kd.at_int HR1.out x5_1 p144 q144
                cases e144
                replace p144 := eq_true p144
                replace q144 := eq_true q144
                go_wp2
                repeat (go_quiet (fail); try go_wp2)
                go_ret
                exact ⟨by first | rfl | (simp; done) | (simp [*]; done), by repeat (first | exact Drawn0.refl _ | apply Drawn0.step)⟩
            · rw [if_neg c6] at H
              exact absurd H (by simp)
          · rw [if_neg c5] at H
            exact absurd H (by simp)
        · rw [if_neg c4] at H
          have c4b0 : decide (x5_1 < (l0.length : Int)) = false := decide_eq_false c4
          clear c4
          obtain rfl := Option.some.inj H
          go_wp2
          repeat (go_quiet (fail); try go_wp2)
          go_ret
          exact ⟨by first | rfl | (simp; done) | (simp [*]; done), by repeat (first | exact Drawn0.refl _ | apply Drawn0.step)⟩
  · rw [if_neg c3] at H
    have c3b0 : ((l0.length : Int) == (l1.length : Int)) = false := beq_eq_false_iff_ne.mpr c3
    have c3b1 : ((l0.length : Int) != (l1.length : Int)) = true := bne_iff_ne.mpr c3
    have c3b2 : (l0.length == l1.length) = false := by first | simpa using c3 | (simp at c3 ⊢; omega)
    obtain rfl := Option.some.inj H
    go_enter Try.func31, Try.ntmps31
    go_wp2
    repeat (go_quiet (fail); try go_wp2)
    go_ret
    exact ⟨by first | rfl | (simp; done) | (simp [*]; done), by repeat (first | exact Drawn0.refl _ | apply Drawn0.step)⟩

/-! ### laws_eqCal: function 13 -/
def laws_eqCal.f (k : Nat) (a0_0 : Int) (l0_1 : List Int) (a1_0 : Int) (l1_1 : List Int) : Option (Bool) := if a0_0 = a1_0 then ((laws_eqIntS.f k l0_1 l1_1).bind fun t147 => (if t147 = true then (some true) else (some false))) else (some false)
theorem laws_eqCal.mono : ∀ a0 a1 a2 a3 k, LeO (laws_eqCal.f k a0 a1 a2 a3) (laws_eqCal.f (k + 1) a0 a1 a2 a3) := by
  intro a0 a1 a2 a3 k
  unfold laws_eqCal.f
  repeat' first
      | (with_reducible exact laws_eqIntS.mono _ _ _)
      | (with_reducible exact LeO.refl _)
      | (with_reducible exact LeO.none _)
      | (with_reducible refine LeO.ite ?_ ?_)
      | (with_reducible refine LeO.bind ?_ (fun _ => ?_))
      | exact laws_eqIntS.mono _ _ _
      | exact LeO.none _
      | refine LeO.ite ?_ ?_
      | refine LeO.bind ?_ (fun _ => ?_)
set_option maxHeartbeats 8000000 in
set_option maxRecDepth 100000 in
theorem laws_eqCal.calls (k : Nat) (a0_0 : Int) (A0_1 : Option Addr) (c0_1 : Nat) (l0_1 : List Int) (a1_0 : Int) (A1_1 : Option Addr) (c1_1 : Nat) (l1_1 : List Int) (r : Bool) (w : World) (hr0_1 : Kd.C (Kd.int .i64) w A0_1 l0_1.length l0_1) (hc0_1 : l0_1.length ≤ c0_1) (hr1_1 : Kd.C (Kd.int .i64) w A1_1 l1_1.length l1_1) (hc1_1 : l1_1.length ≤ c1_1) (h : laws_eqCal.f k a0_0 l0_1 a1_0 l1_1 = some r) :
    Calls Try.prog 13 #[.agg #[.int .i64 a0_0, .slice A0_1 l0_1.length c0_1], .agg #[.int .i64 a1_0, .slice A1_1 l1_1.length c1_1]] w fun e w' => e = .returned (.bool r) ∧ Below w.heap.size w w' := by
  have hu34 := Try.underlying34
  have HR0_1 := Aside0.mk hr0_1
  have HC0_1 := Aside0.mk hc0_1
  clear hr0_1 hc0_1
  have HR1_1 := Aside0.mk hr1_1
  have HC1_1 := Aside0.mk hc1_1
  clear hr1_1 hc1_1
  have HB := Aside0.mk (Below.refl w.heap.size w)
  have H : (if a0_0 = a1_0 then ((laws_eqIntS.f k l0_1 l1_1).bind fun t147 => (if t147 = true then (some true) else (some false))) else (some false)) = some r := h
  clear h
  by_cases c3 : a0_0 = a1_0
  · rw [if_pos c3] at H
    have c3b0 : (a0_0 == a1_0) = true := beq_iff_eq.mpr c3
    have c3b1 : (a0_0 != a1_0) = false := bne_eq_false_iff_eq.mpr c3
    clear c3
    replace H := Option.bind_eq_some_iff.mp H
    obtain ⟨t147, A40, H⟩ := H
    replace H : (if t147 = true then (some true) else (some false)) = some r := H
    have A4 := Aside0.mk A40
    clear A40
    by_cases c5 : t147 = true
    · subst c5
      have H1 : (some true) = some r := by rw [if_pos rfl] at H; exact H
      clear H
      have H := H1
      clear H1
      obtain rfl := Option.some.inj H
      go_enter Try.func13, Try.ntmps13
      go_wp2_with (first | ((with_reducible refine gate_dst (N := 2) rfl ?_); refine box_event ?hg (N := 2) ?hd (cs := #[.int .i64 a0_0, .slice A0_1 l0_1.length c0_1]) (t := 34) ?hr ?_; (case hd => rfl); (case hg => rfl); (case hr => first | (go_simp; done) | (go_simp; rfl)); intro gb145 hg w6 hbox hb; have n0_ := Aside0.mk (below_step (by repeat (first | (with_reducible first | exact HB.out | apply below_alloc | apply pw_below_drewN | apply below_drew1) | exact HB.out)) hb); have n1_ := Aside0.mk (hbox); have n2_ := Aside0.mk ((by rw [hg]; exact (below_size (by repeat (first | (with_reducible first | exact HB.out | apply below_alloc | apply pw_below_drewN | apply below_drew1) | exact HB.out))) : w.heap.size ≤ gb145)); have n3_ := Aside0.mk ((by rw [hg]; exact (below_size (by repeat (first | (with_reducible first | exact HB.out | apply below_alloc | apply pw_below_drewN | apply below_drew1) | exact HB.out))) : w.heap.size ≤ gb145)); clear HB; have HB := n0_; have BK145 := n1_; have GW145 := n2_; have GE145 := n3_; clear n0_ n1_ n2_ n3_; clear hb hbox hg) | ((with_reducible refine gate_dst (N := 3) rfl ?_); refine box_event ?hg (N := 3) ?hd (cs := #[.int .i64 a1_0, .slice A1_1 l1_1.length c1_1]) (t := 34) ?hr ?_; (case hd => rfl); (case hg => rfl); (case hr => first | (go_simp; done) | (go_simp; rfl)); intro gb146 hg w7 hbox hb; have n0_ := Aside0.mk (blk_below (g := gb145) (o := .cells #[.int .i64 a0_0, .slice A0_1 l0_1.length c0_1] 34 (0, 0)) (by (with_reducible repeat (first | refine blk_drewN ?_ _ | refine blk_drew ?_ | refine blk_alloc ?_ _)); exact BK145.out) hb); have n1_ := Aside0.mk (below_step (by repeat (first | (with_reducible first | exact HB.out | apply below_alloc | apply pw_below_drewN | apply below_drew1 | refine below_set ?_ GE145.out) | exact HB.out)) hb); have n2_ := Aside0.mk (hbox); have n3_ := Aside0.mk ((by rw [hg]; exact (below_size (by repeat (first | (with_reducible first | exact HB.out | apply below_alloc | apply pw_below_drewN | apply below_drew1 | refine below_set ?_ GE145.out) | exact HB.out))) : w.heap.size ≤ gb146)); have n4_ := Aside0.mk ((by rw [hg]; exact (below_size (by repeat (first | (with_reducible first | exact HB.out | apply below_alloc | apply pw_below_drewN | apply below_drew1 | refine below_set ?_ GE145.out) | exact HB.out))) : w.heap.size ≤ gb146)); have n5_ := Aside0.mk ((by rw [hg]; exact Nat.ne_of_lt (blk_lt (g := gb145) (o := .cells #[.int .i64 a0_0, .slice A0_1 l0_1.length c0_1] 34 (0, 0)) (by (with_reducible repeat (first | refine blk_drewN ?_ _ | refine blk_drew ?_ | refine blk_alloc ?_ _)); exact BK145.out)) : gb145 ≠ gb146)); have n6_ := Aside0.mk ((by rw [hg]; exact Nat.ne_of_gt (blk_lt (g := gb145) (o := .cells #[.int .i64 a0_0, .slice A0_1 l0_1.length c0_1] 34 (0, 0)) (by (with_reducible repeat (first | refine blk_drewN ?_ _ | refine blk_drew ?_ | refine blk_alloc ?_ _)); exact BK145.out)) : gb146 ≠ gb145)); clear BK145; clear HB; have BK145 := n0_; have HB := n1_; have BK146 := n2_; have GW146 := n3_; have GE146 := n4_; have NB145_146 := n5_; have NB146_145 := n6_; clear n0_ n1_ n2_ n3_ n4_ n5_ n6_; clear hb hbox hg; have hnb8 := NB145_146.out; have hnc8 := NB146_145.out; have hcz9_0 : w7.cell? ⟨gb145, 0, none⟩ = some (.int .i64 a0_0) := (blk_cell BK145.out 0).trans rfl; have hcz9_1 : w7.cell? ⟨gb145, 1, none⟩ = some (.slice A0_1 l0_1.length c0_1) := (blk_cell BK145.out 1).trans rfl; have hfz9_0 := blk_frozen BK145.out 0; have hfz9_1 := blk_frozen BK145.out 1; have hcz10_0 : w7.cell? ⟨gb146, 0, none⟩ = some (.int .i64 a1_0) := (blk_cell BK146.out 0).trans rfl; have hcz10_1 : w7.cell? ⟨gb146, 1, none⟩ = some (.slice A1_1 l1_1.length c1_1) := (blk_cell BK146.out 1).trans rfl; have hfz10_0 := blk_frozen BK146.out 0; have hfz10_1 := blk_frozen BK146.out 1) | ((with_reducible refine gate_callee (f := 31) rfl ?_); refine goesL_ (some 14) rfl rfl Try.func31 (by kernel_rfl) rfl #[.slice A0_1 l0_1.length c0_1, .slice A1_1 l1_1.length c1_1] rfl (by (try simp only [List.map_toArray, List.map_cons, List.map_nil]); first | done | rfl | (simp only [List.length_drop, List.length_take]; rfl)) ?_; (with_reducible refine (laws_eqIntS.calls k _ _ l0_1 _ _ l1_1 true _ ?side1 ?side2 ?side3 ?side4 A4.out).mono ?_); (case side1 => repeat (first | exact (Kd.C_below HR0_1.out HB.out) | (with_reducible refine Kd.C_alloc ?_ _) | (with_reducible refine Kd.C_drewN ?_ _) | (with_reducible refine Kd.C_drew ?_))); (case side2 => exact HC0_1.out); (case side3 => repeat (first | exact (Kd.C_below HR1_1.out HB.out) | (with_reducible refine Kd.C_alloc ?_ _) | (with_reducible refine Kd.C_drewN ?_ _) | (with_reducible refine Kd.C_drew ?_))); (case side4 => exact HC1_1.out); rintro e w' ⟨rfl, ⟨nd, rfl⟩⟩; refine ⟨_, rfl, ?_⟩))
      go_ret
      exact ⟨by first | rfl | (simp [errW_none, errW_some] <;> rfl) | (simp [*, errW_none, errW_some] <;> rfl), by repeat (first | (with_reducible first | exact HB.out | apply below_alloc | apply pw_below_drewN | apply below_drew1 | refine below_set ?_ GE145.out | refine below_set ?_ GE146.out) | exact HB.out)⟩
    · replace c5 := Bool.eq_false_iff.mpr c5
      subst c5
      have H1 : (some false) = some r := by rw [if_neg (show ¬ (false = true) by decide)] at H; exact H
      clear H
      have H := H1
      clear H1
      obtain rfl := Option.some.inj H
      go_enter Try.func13, Try.ntmps13
      go_wp2_with (first | ((with_reducible refine gate_dst (N := 2) rfl ?_); refine box_event ?hg (N := 2) ?hd (cs := #[.int .i64 a0_0, .slice A0_1 l0_1.length c0_1]) (t := 34) ?hr ?_; (case hd => rfl); (case hg => rfl); (case hr => first | (go_simp; done) | (go_simp; rfl)); intro gb145 hg w11 hbox hb; have n0_ := Aside0.mk (below_step (by repeat (first | (with_reducible first | exact HB.out | apply below_alloc | apply pw_below_drewN | apply below_drew1) | exact HB.out)) hb); have n1_ := Aside0.mk (hbox); have n2_ := Aside0.mk ((by rw [hg]; exact (below_size (by repeat (first | (with_reducible first | exact HB.out | apply below_alloc | apply pw_below_drewN | apply below_drew1) | exact HB.out))) : w.heap.size ≤ gb145)); have n3_ := Aside0.mk ((by rw [hg]; exact (below_size (by repeat (first | (with_reducible first | exact HB.out | apply below_alloc | apply pw_below_drewN | apply below_drew1) | exact HB.out))) : w.heap.size ≤ gb145)); clear HB; have HB := n0_; have BK145 := n1_; have GW145 := n2_; have GE145 := n3_; clear n0_ n1_ n2_ n3_; clear hb hbox hg) | ((with_reducible refine gate_dst (N := 3) rfl ?_); refine box_event ?hg (N := 3) ?hd (cs := #[.int .i64 a1_0, .slice A1_1 l1_1.length c1_1]) (t := 34) ?hr ?_; (case hd => rfl); (case hg => rfl); (case hr => first | (go_simp; done) | (go_simp; rfl)); intro gb146 hg w12 hbox hb; have n0_ := Aside0.mk (blk_below (g := gb145) (o := .cells #[.int .i64 a0_0, .slice A0_1 l0_1.length c0_1] 34 (0, 0)) (by (with_reducible repeat (first | refine blk_drewN ?_ _ | refine blk_drew ?_ | refine blk_alloc ?_ _)); exact BK145.out) hb); have n1_ := Aside0.mk (below_step (by repeat (first | (with_reducible first | exact HB.out | apply below_alloc | apply pw_below_drewN | apply below_drew1 | refine below_set ?_ GE145.out) | exact HB.out)) hb); have n2_ := Aside0.mk (hbox); have n3_ := Aside0.mk ((by rw [hg]; exact (below_size (by repeat (first | (with_reducible first | exact HB.out | apply below_alloc | apply pw_below_drewN | apply below_drew1 | refine below_set ?_ GE145.out) | exact HB.out))) : w.heap.size ≤ gb146)); have n4_ := Aside0.mk ((by rw [hg]; exact (below_size (by repeat (first | (with_reducible first | exact HB.out | apply below_alloc | apply pw_below_drewN | apply below_drew1 | refine below_set ?_ GE145.out) | exact HB.out))) : w.heap.size ≤ gb146)); have n5_ := Aside0.mk ((by rw [hg]; exact Nat.ne_of_lt (blk_lt (g := gb145) (o := .cells #[.int .i64 a0_0, .slice A0_1 l0_1.length c0_1] 34 (0, 0)) (by (with_reducible repeat (first | refine blk_drewN ?_ _ | refine blk_drew ?_ | refine blk_alloc ?_ _)); exact BK145.out)) : gb145 ≠ gb146)); have n6_ := Aside0.mk ((by rw [hg]; exact Nat.ne_of_gt (blk_lt (g := gb145) (o := .cells #[.int .i64 a0_0, .slice A0_1 l0_1.length c0_1] 34 (0, 0)) (by (with_reducible repeat (first | refine blk_drewN ?_ _ | refine blk_drew ?_ | refine blk_alloc ?_ _)); exact BK145.out)) : gb146 ≠ gb145)); clear BK145; clear HB; have BK145 := n0_; have HB := n1_; have BK146 := n2_; have GW146 := n3_; have GE146 := n4_; have NB145_146 := n5_; have NB146_145 := n6_; clear n0_ n1_ n2_ n3_ n4_ n5_ n6_; clear hb hbox hg; have hnb13 := NB145_146.out; have hnc13 := NB146_145.out; have hcz14_0 : w12.cell? ⟨gb145, 0, none⟩ = some (.int .i64 a0_0) := (blk_cell BK145.out 0).trans rfl; have hcz14_1 : w12.cell? ⟨gb145, 1, none⟩ = some (.slice A0_1 l0_1.length c0_1) := (blk_cell BK145.out 1).trans rfl; have hfz14_0 := blk_frozen BK145.out 0; have hfz14_1 := blk_frozen BK145.out 1; have hcz15_0 : w12.cell? ⟨gb146, 0, none⟩ = some (.int .i64 a1_0) := (blk_cell BK146.out 0).trans rfl; have hcz15_1 : w12.cell? ⟨gb146, 1, none⟩ = some (.slice A1_1 l1_1.length c1_1) := (blk_cell BK146.out 1).trans rfl; have hfz15_0 := blk_frozen BK146.out 0; have hfz15_1 := blk_frozen BK146.out 1) | ((with_reducible refine gate_callee (f := 31) rfl ?_); refine goesL_ (some 14) rfl rfl Try.func31 (by kernel_rfl) rfl #[.slice A0_1 l0_1.length c0_1, .slice A1_1 l1_1.length c1_1] rfl (by (try simp only [List.map_toArray, List.map_cons, List.map_nil]); first | done | rfl | (simp only [List.length_drop, List.length_take]; rfl)) ?_; (with_reducible refine (laws_eqIntS.calls k _ _ l0_1 _ _ l1_1 false _ ?side1 ?side2 ?side3 ?side4 A4.out).mono ?_); (case side1 => repeat (first | exact (Kd.C_below HR0_1.out HB.out) | (with_reducible refine Kd.C_alloc ?_ _) | (with_reducible refine Kd.C_drewN ?_ _) | (with_reducible refine Kd.C_drew ?_))); (case side2 => exact HC0_1.out); (case side3 => repeat (first | exact (Kd.C_below HR1_1.out HB.out) | (with_reducible refine Kd.C_alloc ?_ _) | (with_reducible refine Kd.C_drewN ?_ _) | (with_reducible refine Kd.C_drew ?_))); (case side4 => exact HC1_1.out); rintro e w' ⟨rfl, ⟨nd, rfl⟩⟩; refine ⟨_, rfl, ?_⟩))
      go_ret
      exact ⟨by first | rfl | (simp [errW_none, errW_some] <;> rfl) | (simp [*, errW_none, errW_some] <;> rfl), by repeat (first | (with_reducible first | exact HB.out | apply below_alloc | apply pw_below_drewN | apply below_drew1 | refine below_set ?_ GE145.out | refine below_set ?_ GE146.out) | exact HB.out)⟩
  · rw [if_neg c3] at H
    have c3b0 : (a0_0 == a1_0) = false := beq_eq_false_iff_ne.mpr c3
    have c3b1 : (a0_0 != a1_0) = true := bne_iff_ne.mpr c3
    obtain rfl := Option.some.inj H
    go_enter Try.func13, Try.ntmps13
    go_wp2_with (first | ((with_reducible refine gate_dst (N := 2) rfl ?_); refine box_event ?hg (N := 2) ?hd (cs := #[.int .i64 a0_0, .slice A0_1 l0_1.length c0_1]) (t := 34) ?hr ?_; (case hd => rfl); (case hg => rfl); (case hr => first | (go_simp; done) | (go_simp; rfl)); intro gb145 hg w16 hbox hb; have n0_ := Aside0.mk (below_step (by repeat (first | (with_reducible first | exact HB.out | apply below_alloc | apply pw_below_drewN | apply below_drew1) | exact HB.out)) hb); have n1_ := Aside0.mk (hbox); have n2_ := Aside0.mk ((by rw [hg]; exact (below_size (by repeat (first | (with_reducible first | exact HB.out | apply below_alloc | apply pw_below_drewN | apply below_drew1) | exact HB.out))) : w.heap.size ≤ gb145)); have n3_ := Aside0.mk ((by rw [hg]; exact (below_size (by repeat (first | (with_reducible first | exact HB.out | apply below_alloc | apply pw_below_drewN | apply below_drew1) | exact HB.out))) : w.heap.size ≤ gb145)); clear HB; have HB := n0_; have BK145 := n1_; have GW145 := n2_; have GE145 := n3_; clear n0_ n1_ n2_ n3_; clear hb hbox hg) | ((with_reducible refine gate_dst (N := 3) rfl ?_); refine box_event ?hg (N := 3) ?hd (cs := #[.int .i64 a1_0, .slice A1_1 l1_1.length c1_1]) (t := 34) ?hr ?_; (case hd => rfl); (case hg => rfl); (case hr => first | (go_simp; done) | (go_simp; rfl)); intro gb146 hg w17 hbox hb; have n0_ := Aside0.mk (blk_below (g := gb145) (o := .cells #[.int .i64 a0_0, .slice A0_1 l0_1.length c0_1] 34 (0, 0)) (by (with_reducible repeat (first | refine blk_drewN ?_ _ | refine blk_drew ?_ | refine blk_alloc ?_ _)); exact BK145.out) hb); have n1_ := Aside0.mk (below_step (by repeat (first | (with_reducible first | exact HB.out | apply below_alloc | apply pw_below_drewN | apply below_drew1 | refine below_set ?_ GE145.out) | exact HB.out)) hb); have n2_ := Aside0.mk (hbox); have n3_ := Aside0.mk ((by rw [hg]; exact (below_size (by repeat (first | (with_reducible first | exact HB.out | apply below_alloc | apply pw_below_drewN | apply below_drew1 | refine below_set ?_ GE145.out) | exact HB.out))) : w.heap.size ≤ gb146)); have n4_ := Aside0.mk ((by rw [hg]; exact (below_size (by repeat (first | (with_reducible first | exact HB.out | apply below_alloc | apply pw_below_drewN | apply below_drew1 | refine below_set ?_ GE145.out) | exact HB.out))) : w.heap.size ≤ gb146)); have n5_ := Aside0.mk ((by rw [hg]; exact Nat.ne_of_lt (blk_lt (g := gb145) (o := .cells #[.int .i64 a0_0, .slice A0_1 l0_1.length c0_1] 34 (0, 0)) (by (with_reducible repeat (first | refine blk_drewN ?_ _ | refine blk_drew ?_ | refine blk_alloc ?_ _)); exact BK145.out)) : gb145 ≠ gb146)); have n6_ := Aside0.mk ((by rw [hg]; exact Nat.ne_of_gt (blk_lt (g := gb145) (o := .cells #[.int .i64 a0_0, .slice A0_1 l0_1.length c0_1] 34 (0, 0)) (by (with_reducible repeat (first | refine blk_drewN ?_ _ | refine blk_drew ?_ | refine blk_alloc ?_ _)); exact BK145.out)) : gb146 ≠ gb145)); clear BK145; clear HB; have BK145 := n0_; have HB := n1_; have BK146 := n2_; have GW146 := n3_; have GE146 := n4_; have NB145_146 := n5_; have NB146_145 := n6_; clear n0_ n1_ n2_ n3_ n4_ n5_ n6_; clear hb hbox hg; have hnb18 := NB145_146.out; have hnc18 := NB146_145.out; have hcz19_0 : w17.cell? ⟨gb145, 0, none⟩ = some (.int .i64 a0_0) := (blk_cell BK145.out 0).trans rfl; have hcz19_1 : w17.cell? ⟨gb145, 1, none⟩ = some (.slice A0_1 l0_1.length c0_1) := (blk_cell BK145.out 1).trans rfl; have hfz19_0 := blk_frozen BK145.out 0; have hfz19_1 := blk_frozen BK145.out 1; have hcz20_0 : w17.cell? ⟨gb146, 0, none⟩ = some (.int .i64 a1_0) := (blk_cell BK146.out 0).trans rfl; have hcz20_1 : w17.cell? ⟨gb146, 1, none⟩ = some (.slice A1_1 l1_1.length c1_1) := (blk_cell BK146.out 1).trans rfl; have hfz20_0 := blk_frozen BK146.out 0; have hfz20_1 := blk_frozen BK146.out 1))
    go_ret
    exact ⟨by first | rfl | (simp [errW_none, errW_some] <;> rfl) | (simp [*, errW_none, errW_some] <;> rfl), by repeat (first | (with_reducible first | exact HB.out | apply below_alloc | apply pw_below_drewN | apply below_drew1 | refine below_set ?_ GE145.out | refine below_set ?_ GE146.out) | exact HB.out)⟩

end Go.Proofs.Ythenbichjdmdkaa.PFnExactCountWork
