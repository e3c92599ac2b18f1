/- Lean forms and contracts of the functions that the law FnExactShowChart reaches, laid by a program; those of functions that it does not take are hand-made. No condition is added. -/
import Derived.Test.YteeanacmhclnoabPFnExactShowChartx0
import Derived.Test.YteeanacmhclnoabPFnExactShowChartx5
namespace Go.Proofs.Yteeanacmhclnoab.PFnExactShowChart
open Go.RowKit Go.Proofs.YteeanacmhclnoabW.PrintWords Go.Proofs.YteeanacmhclnoabW.PrintLast Go.Proofs.YteeanacmhclnoabW.PrintMore
open Go.Maps Go.Proofs.Yteeanacmhclnoab.MapAid
attribute [local go_sem] max2_int min2_int max_two min_two max_three min_three max_four min_four   -- for this text's walks alone
set_option linter.unusedVariables false
set_option linter.unusedSimpArgs false

/-! ### impl_depths: function 34 -/
def impl_depths.P (l0 : List S53) (i : Int) (key : Value) : Prop := ∃ a, a ∈ l0.take i.toNat ∧ key = .string a.f0
/-- Has a code stood ahead of the i-th row? -/
def impl_depths_seen.f (l0 : List S53) (i : Int) (s : ByteArray) : Option (Int × Bool) := if s.size ≤ maxLen then some (0, (l0.take i.toNat).any (fun a => decide (a.f0 = s))) else none
theorem impl_depths_seen.small {l0 : List S53} {i : Int} {s : ByteArray} {r : Int × Bool} (h : impl_depths_seen.f l0 i s = some r) : s.size ≤ maxLen := by
  unfold impl_depths_seen.f at h
  split at h
  · assumption
  · cases h
theorem impl_depths_seen.tells {l0 : List S53} {i : Int} {s : ByteArray} {c : Int} {t : Bool} (h : impl_depths_seen.f l0 i s = some (c, t)) : t = true ↔ impl_depths.P l0 i (.string s) := by
  unfold impl_depths_seen.f at h
  split at h
  · injection h with h
    injection h with h1 h2
    subst h2
    rw [List.any_eq_true]
    exact ⟨fun ⟨a, ha, he⟩ => ⟨a, ha, by rw [of_decide_eq_true he]⟩, fun ⟨a, ha, he⟩ => ⟨a, ha, by injection he with he; exact decide_eq_true he.symm⟩⟩
  · cases h
theorem impl_depths.zeroE (w : World) : (zeroValue 3).run Try.prog w = .ok (.int .i64 0) w := by kernel_rfl
theorem impl_depths.start (l0 : List S53) (w : World) : MSet Try.prog 9 3 (MapAid.Keys Try.prog 9 (impl_depths.P l0 0)) (w.alloc (.map #[] 0)) w.heap.size (0 : Int).toNat :=
  (MSet.made w (keys_nil Try.prog 9)).imp (fun D h key kl hk => (h key kl hk).trans ⟨False.elim, fun ⟨a, ha, _⟩ => by simp at ha⟩)
theorem impl_depths.next {l0 : List S53} {i : Int} {w : World} {b : Nat} (hi : 0 ≤ i ∧ i < (l0.length : Int) ∧ l0.length ≤ 35184372088832) (h : MSet Try.prog 9 3 (MapAid.Keys Try.prog 9 (fun z => z = .string ((rd_T53 l0 i).f0) ∨ impl_depths.P l0 i z)) w b (i.toNat + 1)) :
    MSet Try.prog 9 3 (MapAid.Keys Try.prog 9 (impl_depths.P l0 (wrap64 (i + 1)))) w b (wrap64 (i + 1)).toNat := by
  have e : wrap64 (i + 1) = i + 1 := by unfold wrap64; omega
  obtain ⟨n, rfl⟩ : ∃ n : Nat, i = n := ⟨i.toNat, by omega⟩
  have e2 : ((n : Int) + 1).toNat = n + 1 := by omega
  have hn : n < l0.length := by omega
  rw [e, e2]
  refine MSet.imp h (fun D hD key kl hk => (hD key kl hk).trans ?_)
  have et : l0.take (n + 1) = l0.take n ++ [rd_T53 l0 (n : Int)] := by
    rw [List.take_add_one, List.getElem?_eq_getElem hn]
    unfold rd_T53
    rw [Int.toNat_natCast, List.getD_eq_getElem?_getD, List.getElem?_eq_getElem hn]
    rfl
  unfold impl_depths.P
  rw [e2, et]
  constructor
  · rintro (h1 | ⟨a, ha, h1⟩)
    · exact ⟨_, List.mem_append_right _ (List.mem_singleton.2 rfl), h1⟩
    · exact ⟨a, List.mem_append_left _ ha, h1⟩
  · rintro ⟨a, ha, h1⟩
    rcases List.mem_append.1 ha with h2 | h2
    · exact .inr ⟨a, h2, h1⟩
    · rw [List.mem_singleton.1 h2] at h1; exact .inl h1
mutual
def impl_depths.j0 : Nat → List (S53) → Bool → Option (List Int × Bool)
  | 0, _, _ => none
  | k + 1, x0, x18 => if x18 = true then (some (([] : List Int), false)) else (if 0 ≤ (x0.length : Int) then (if ((x0.length : Int) : Int).toNat ≤ 35184372088832 then (impl_depths.l0 k x0 (List.replicate ((x0.length : Int) : Int).toNat 0) x0 (x0.length : Int) 0) else (none)) else (none))
def impl_depths.l0 : Nat → List (S53) → List Int → List (S53) → Int → Int → Option (List Int × Bool)
  | 0, _, _, _, _, _ => none
  | k + 1, x0, x5, x23, x24, x25 => if x25 < x24 then (if 0 ≤ x25 then (if x25 < (x23.length : Int) then ((impl_depths_seen.f x0 x25 ((rd_T53 x23 x25).f0)).bind fun bt142 => (if bt142.2 = true then (impl_depths.j2 k x0 x5 x25 x23 x24 x25 true ((rd_T53 x23 x25).f0) ((rd_T53 x23 x25).f1) ((rd_T53 x23 x25).f2)) else ((impl_NameOk.f k ((rd_T53 x23 x25).f0)).bind fun t144 => (if t144 = true then ((impl_kindOk.f ((rd_T53 x23 x25).f2)).bind fun t145 => (impl_depths.j2 k x0 x5 x25 x23 x24 x25 (!t145) ((rd_T53 x23 x25).f0) ((rd_T53 x23 x25).f1) ((rd_T53 x23 x25).f2))) else (impl_depths.j2 k x0 x5 x25 x23 x24 x25 true ((rd_T53 x23 x25).f0) ((rd_T53 x23 x25).f1) ((rd_T53 x23 x25).f2)))))) else (none)) else (none)) else (some (x5, true))
def impl_depths.j2 : Nat → List (S53) → List Int → Int → List (S53) → Int → Int → Bool → ByteArray → Int → Int → Option (List Int × Bool)
  | 0, _, _, _, _, _, _, _, _, _, _ => none
  | k + 1, x0, x5, x6, x23, x24, x25, x49, x142000, x142001, x142002 => if x49 = true then (some (([] : List Int), false)) else (if x142001 = (-1) then (impl_depths.l0 k x0 x5 x23 x24 (wrap64 (x25 + 1))) else (impl_depths.l1 k x0 x5 x6 (wrap64 (x6 - 1)) x23 x24 x25 x142000 x142001 x142002))
def impl_depths.l1 : Nat → List (S53) → List Int → Int → Int → List (S53) → Int → Int → ByteArray → Int → Int → Option (List Int × Bool)
  | 0, _, _, _, _, _, _, _, _, _, _ => none
  | k + 1, x0, x5, x6, x10, x23, x24, x25, x142000, x142001, x142002 => if x10 ≥ 0 then (if x10 = x142001 then (if x10 < 0 then (some (([] : List Int), false)) else (if 0 ≤ x10 then (if x10 < (x0.length : Int) then (if ((rd_T53 x0 x10).f2) = x142002 then (if x10 < (x5.length : Int) then (if (rd x5 x10) ≥ 8 then (some (([] : List Int), false)) else (if 0 ≤ x6 then (if x6 < (x5.length : Int) then (impl_depths.l0 k x0 (x5.set (x6 : Int).toNat (wrap64 ((rd x5 x10) + 1))) x23 x24 (wrap64 (x25 + 1))) else (none)) else (none))) else (none)) else (some (([] : List Int), false))) else (none)) else (none))) else (if 0 ≤ x10 then (if x10 < (x0.length : Int) then (impl_depths.l1 k x0 x5 x6 ((rd_T53 x0 x10).f1) x23 x24 x25 x142000 x142001 x142002) else (none)) else (none))) else (if x10 < 0 then (some (([] : List Int), false)) else (if 0 ≤ x10 then (if x10 < (x0.length : Int) then (if ((rd_T53 x0 x10).f2) = x142002 then (if x10 < (x5.length : Int) then (if (rd x5 x10) ≥ 8 then (some (([] : List Int), false)) else (if 0 ≤ x6 then (if x6 < (x5.length : Int) then (impl_depths.l0 k x0 (x5.set (x6 : Int).toNat (wrap64 ((rd x5 x10) + 1))) x23 x24 (wrap64 (x25 + 1))) else (none)) else (none))) else (none)) else (some (([] : List Int), false))) else (none)) else (none)))
end
def impl_depths.f (k : Nat) (l0 : List (S53)) : Option (List Int × Bool) := if (l0.length : Int) < 1 then (impl_depths.j0 k l0 true) else (impl_depths.j0 k l0 (decide ((l0.length : Int) > 120)))
theorem impl_depths.mono_l : ∀ k, (∀ y0 y1, LeO (impl_depths.j0 k y0 y1) (impl_depths.j0 (k + 1) y0 y1)) ∧ (∀ y0 y1 y2 y3 y4, LeO (impl_depths.l0 k y0 y1 y2 y3 y4) (impl_depths.l0 (k + 1) y0 y1 y2 y3 y4)) ∧ (∀ y0 y1 y2 y3 y4 y5 y6 y7 y8 y9, LeO (impl_depths.j2 k y0 y1 y2 y3 y4 y5 y6 y7 y8 y9) (impl_depths.j2 (k + 1) y0 y1 y2 y3 y4 y5 y6 y7 y8 y9)) ∧ (∀ y0 y1 y2 y3 y4 y5 y6 y7 y8 y9, LeO (impl_depths.l1 k y0 y1 y2 y3 y4 y5 y6 y7 y8 y9) (impl_depths.l1 (k + 1) y0 y1 y2 y3 y4 y5 y6 y7 y8 y9))
  | 0 => ⟨fun _ _ r h => by simp [impl_depths.j0] at h, fun _ _ _ _ _ r h => by simp [impl_depths.l0] at h, fun _ _ _ _ _ _ _ _ _ _ r h => by simp [impl_depths.j2] at h, fun _ _ _ _ _ _ _ _ _ _ r h => by simp [impl_depths.l1] at h⟩
  | k + 1 => by
    obtain ⟨ih0, ih1, ih2, ih3⟩ := impl_depths.mono_l k
    refine ⟨?_, ?_, ?_, ?_⟩
    · intro y0 y1
      unfold impl_depths.j0
      repeat' first
      | (with_reducible exact ih0 _ _)
      | (with_reducible exact ih1 _ _ _ _ _)
      | (with_reducible exact ih2 _ _ _ _ _ _ _ _ _ _)
      | (with_reducible exact ih3 _ _ _ _ _ _ _ _ _ _)
      | (with_reducible exact impl_NameOk.mono _ _)
      | (with_reducible exact LeO.refl _)
      | (with_reducible exact LeO.none _)
      | (with_reducible refine LeO.ite ?_ ?_)
      | (with_reducible refine LeO.bind ?_ (fun _ => ?_))
      | exact ih0 _ _
      | exact ih1 _ _ _ _ _
      | exact ih2 _ _ _ _ _ _ _ _ _ _
      | exact ih3 _ _ _ _ _ _ _ _ _ _
      | exact impl_NameOk.mono _ _
      | exact LeO.none _
      | refine LeO.ite ?_ ?_
      | refine LeO.bind ?_ (fun _ => ?_)
    · intro y0 y1 y2 y3 y4
      unfold impl_depths.l0
      repeat' first
      | (with_reducible exact ih0 _ _)
      | (with_reducible exact ih1 _ _ _ _ _)
      | (with_reducible exact ih2 _ _ _ _ _ _ _ _ _ _)
      | (with_reducible exact ih3 _ _ _ _ _ _ _ _ _ _)
      | (with_reducible exact impl_NameOk.mono _ _)
      | (with_reducible exact LeO.refl _)
      | (with_reducible exact LeO.none _)
      | (with_reducible refine LeO.ite ?_ ?_)
      | (with_reducible refine LeO.bind ?_ (fun _ => ?_))
      | exact ih0 _ _
      | exact ih1 _ _ _ _ _
      | exact ih2 _ _ _ _ _ _ _ _ _ _
      | exact ih3 _ _ _ _ _ _ _ _ _ _
      | exact impl_NameOk.mono _ _
      | exact LeO.none _
      | refine LeO.ite ?_ ?_
      | refine LeO.bind ?_ (fun _ => ?_)
    · intro y0 y1 y2 y3 y4 y5 y6 y7 y8 y9
      unfold impl_depths.j2
      repeat' first
      | (with_reducible exact ih0 _ _)
      | (with_reducible exact ih1 _ _ _ _ _)
      | (with_reducible exact ih2 _ _ _ _ _ _ _ _ _ _)
      | (with_reducible exact ih3 _ _ _ _ _ _ _ _ _ _)
      | (with_reducible exact impl_NameOk.mono _ _)
      | (with_reducible exact LeO.refl _)
      | (with_reducible exact LeO.none _)
      | (with_reducible refine LeO.ite ?_ ?_)
      | (with_reducible refine LeO.bind ?_ (fun _ => ?_))
      | exact ih0 _ _
      | exact ih1 _ _ _ _ _
      | exact ih2 _ _ _ _ _ _ _ _ _ _
      | exact ih3 _ _ _ _ _ _ _ _ _ _
      | exact impl_NameOk.mono _ _
      | exact LeO.none _
      | refine LeO.ite ?_ ?_
      | refine LeO.bind ?_ (fun _ => ?_)
    · intro y0 y1 y2 y3 y4 y5 y6 y7 y8 y9
      unfold impl_depths.l1
      repeat' first
      | (with_reducible exact ih0 _ _)
      | (with_reducible exact ih1 _ _ _ _ _)
      | (with_reducible exact ih2 _ _ _ _ _ _ _ _ _ _)
      | (with_reducible exact ih3 _ _ _ _ _ _ _ _ _ _)
      | (with_reducible exact impl_NameOk.mono _ _)
      | (with_reducible exact LeO.refl _)
      | (with_reducible exact LeO.none _)
      | (with_reducible refine LeO.ite ?_ ?_)
      | (with_reducible refine LeO.bind ?_ (fun _ => ?_))
      | exact ih0 _ _
      | exact ih1 _ _ _ _ _
      | exact ih2 _ _ _ _ _ _ _ _ _ _
      | exact ih3 _ _ _ _ _ _ _ _ _ _
      | exact impl_NameOk.mono _ _
      | exact LeO.none _
      | refine LeO.ite ?_ ?_
      | refine LeO.bind ?_ (fun _ => ?_)
theorem impl_depths.mono : ∀ a0 k, LeO (impl_depths.f k a0) (impl_depths.f (k + 1) a0) := by
  intro a0 k
  obtain ⟨ih0, ih1, ih2, ih3⟩ := impl_depths.mono_l k
  unfold impl_depths.f
  repeat' first
      | (with_reducible exact ih0 _ _)
      | (with_reducible exact ih1 _ _ _ _ _)
      | (with_reducible exact ih2 _ _ _ _ _ _ _ _ _ _)
      | (with_reducible exact ih3 _ _ _ _ _ _ _ _ _ _)
      | (with_reducible exact impl_NameOk.mono _ _)
      | (with_reducible exact LeO.refl _)
      | (with_reducible exact LeO.none _)
      | (with_reducible refine LeO.ite ?_ ?_)
      | (with_reducible refine LeO.bind ?_ (fun _ => ?_))
      | exact ih0 _ _
      | exact ih1 _ _ _ _ _
      | exact ih2 _ _ _ _ _ _ _ _ _ _
      | exact ih3 _ _ _ _ _ _ _ _ _ _
      | exact impl_NameOk.mono _ _
      | exact LeO.none _
      | refine LeO.ite ?_ ?_
      | refine LeO.bind ?_ (fun _ => ?_)
set_option maxHeartbeats 8000000 in
set_option maxRecDepth 100000 in
theorem impl_depths.calls (k : Nat) (A0 : Option Addr) (c0 : Nat) (l0 : List (S53)) (r1 : List Int) (r2 : Bool) (w : World) (hr0 : Kd.C k53 w A0 l0.length l0) (hc0 : l0.length ≤ c0) (h : impl_depths.f k l0 = some (r1, r2)) :
    Calls Try.prog 34 #[.slice A0 l0.length c0] w fun e w' => ∃ v0_ : Value, e = .returned (.tuple #[v0_, .bool r2]) ∧ Kd.R (Kd.int .i64) 3 w' w.heap.size (fun _ => True) v0_ r1 ∧ Below w.heap.size w w' := by
  have hu53 := Try.underlying53
  have HR0 := Aside0.mk hr0
  have HC0 := Aside0.mk hc0
  clear hr0 hc0
  have HB := Aside0.mk (Below.refl w.heap.size w)
  have H : (if (l0.length : Int) < 1 then (impl_depths.j0 k l0 true) else (impl_depths.j0 k l0 (decide ((l0.length : Int) > 120)))) = some (r1, r2) := h
  clear h
  have HC2 := Aside0.mk H
  clear H
  go_enter Try.func34, Try.ntmps34
  go_upto_region 1 with (fail)
  repeat (go_quiet (fail); go_upto_region 1 with (fail))
  go_cut [18] (fun v18 wc => ∃ (kq : Nat) (x18_1 : Bool), v18 = .bool x18_1 ∧ Aside0 (impl_depths.j0 kq l0 x18_1 = some (r1, r2)) ∧ Aside0 (kq ≤ k) ∧ Aside0 (Below w.heap.size w wc))
  case first =>
    have H := HC2.out
    clear HC2
    by_cases c3 : (l0.length : Int) < 1
    · rw [if_pos c3] at H
      have c3b0 : decide ((l0.length : Int) < 1) = true := decide_eq_true c3
      have c3b1 : decide (l0.length < 1) = true := decide_eq_true (by omega)
      clear c3
      (first | rw [c3b0] | (simp only [i64_w, i32_w]; rw [c3b0]) | skip)
      have H' := Aside0.mk H
      clear H
      go_wp2
      repeat (go_quiet (fail); try go_wp2)
      go_meet
      case rel => exact ⟨_, (true), (by first | rfl | (simp; done) | (simp [*]; done)), H', ⟨by first | omega | exact Nat.le_refl _⟩, ⟨by repeat (first | (with_reducible first | exact HB.out | apply below_alloc | apply pw_below_drewN | apply below_drew1) | exact HB.out)⟩⟩
    · rw [if_neg c3] at H
      have c3b0 : decide ((l0.length : Int) < 1) = false := decide_eq_false c3
      have c3b1 : decide (l0.length < 1) = false := decide_eq_false (by omega)
      clear c3
      (first | rw [c3b0] | (simp only [i64_w, i32_w]; rw [c3b0]) | skip)
      have H' := Aside0.mk H
      clear H
      go_wp2
      repeat (go_quiet (fail); try go_wp2)
      go_meet
      case rel => exact ⟨_, (decide ((l0.length : Int) > 120)), (by first | rfl | (simp; done) | (simp [*]; done)), H', ⟨by first | omega | exact Nat.le_refl _⟩, ⟨by repeat (first | (with_reducible first | exact HB.out | apply below_alloc | apply pw_below_drewN | apply below_drew1) | exact HB.out)⟩⟩
  case rest =>
    clear HC2
    try clear p2
    try clear c3
    try clear c3b0
    try clear c3b1
    obtain ⟨kq, x18_1, rfl, HA, HJ1, HB⟩ := hcut
    obtain ⟨bM, hbM⟩ : ∃ b, b = wc.heap.size := ⟨_, rfl⟩
    have hmm : (Instr.makeMap 83 none).run Try.prog wc = .ok (.map (some bM)) (wc.alloc (.map #[] 0)) := by rw [hbM]; exact run_makeMap _ _
    have GEM : Aside0 (w.heap.size ≤ bM) := Aside0.mk (by rw [hbM]; exact below_size HB.out)
    have HM : Aside0 (MSet Try.prog 9 3 (MapAid.Keys Try.prog 9 (impl_depths.P l0 0)) (wc.alloc (.map #[] 0)) bM (0 : Int).toNat) := Aside0.mk (by rw [hbM]; exact impl_depths.start l0 wc)
    clear hbM
    cases kq with
    | zero => exact absurd HA.out (by simp [impl_depths.j0])
    | succ kj1 =>
      have H := HA.out
      clear HA
      simp only [impl_depths.j0] at H
      by_cases c4 : x18_1 = true
      · subst c4
        have H1 : (some (([] : List Int), false)) = some (r1, r2) := by rw [if_pos rfl] at H; exact H
        clear H
        have H := H1
        clear H1
        simp only [Option.some.injEq, Prod.mk.injEq] at H
        obtain ⟨rfl, rfl⟩ := H
        go_wp2
        repeat (go_quiet (fail); try go_wp2)
        go_ret2
        exact ⟨_, by first | rfl | (simp [errW_none, errW_some] <;> rfl) | (simp [*, errW_none, errW_some] <;> rfl), by first | exact Kd.R_nil _ _ _ _ _ | exact Kd.N_nil _ _ _ _ _ | exact Kd.V_nil _ _ _ _ _ | exact Kd.Q_nil _ _ _ _ _ | exact Kd.S_nil _ _ _ _ _, by repeat (first | (with_reducible first | exact HB.out | apply below_alloc | apply pw_below_drewN | apply below_drew1) | exact HB.out)⟩
      · replace c4 := Bool.eq_false_iff.mpr c4
        subst c4
        have H1 : (if 0 ≤ (l0.length : Int) then (if ((l0.length : Int) : Int).toNat ≤ 35184372088832 then (impl_depths.l0 kj1 l0 (List.replicate ((l0.length : Int) : Int).toNat 0) l0 (l0.length : Int) 0) else (none)) else (none)) = some (r1, r2) := by rw [if_neg (show ¬ (false = true) by decide)] at H; exact H
        clear H
        have H := H1
        clear H1
        by_cases c5 : 0 ≤ (l0.length : Int)
        · rw [if_pos c5] at H
          have c5b0 := eq_true c5
          have c5b1 : decide (0 ≤ (l0.length : Int)) = true := decide_eq_true c5
          clear c5
          by_cases c6 : ((l0.length : Int) : Int).toNat ≤ 35184372088832
          · rw [if_pos c6] at H
            have HL6 : Aside0 (l0.length ≤ 35184372088832) := Aside0.mk (by simpa using c6)
            have c6b0 := eq_true c6
            have c6b1 : decide (((l0.length : Int) : Int).toNat ≤ 35184372088832) = true := decide_eq_true c6
            clear c6
            obtain ⟨y137, hy137⟩ : ∃ y_ : List Int, y_ = (List.replicate ((l0.length : Int) : Int).toNat 0) := ⟨_, rfl⟩
            replace H : (impl_depths.l0 kj1 l0 y137 l0 (l0.length : Int) 0) = some (r1, r2) := by first | (rw [hy137]; with_reducible exact H) | (have H2_ := (Option.bind_some _ _).symm.trans H; rw [hy137]; with_reducible exact H2_) | (have H2_ := (Option.bind_some _ _).symm.trans H; with_reducible exact H2_) | with_reducible exact H | (rw [hy137]; exact H) | exact H
            have Ny137 := Aside0.mk hy137
            clear hy137
            have H' := Aside0.mk H
            clear H
            go_wp2_with (first | ((with_reducible refine gate_dst (N := 22) rfl ?_); (try (refine gate_guard (by rfl) ?_; dsimp only)); refine Kd.R_make (Kd.int .i64) _ 3 rfl (N := 22) rfl 56 _ _ rfl (l0.length : Int) rfl rfl Try.underlying56 (.int .i64 0) 8 info3 rfl (by decide) (by omega) 0 (ok := fun _ => True) (okp := fun _ => True) rfl (fun _ hk => hk) trivial (of_decide_eq_true (by first | (with_reducible assumption) | assumption)) (Nat.le_trans (Nat.mul_le_mul_right _ (of_decide_eq_true (by first | (with_reducible assumption) | assumption) : (l0.length : Int).toNat ≤ 35184372088832)) (by omega)) (Below.refl _ _) (Nat.le_refl _) ?_; intro v138 w7 ho8 hb hg_ hnew_; clear hg_ hnew_; (first | rw [← Ny137.out] at ho8 | (simp only [Int.reduceToNat] at ho8; rw [← Ny137.out] at ho8)); have nM_ := Aside0.mk (MSet.below' HM.out hb); have n0_ := Aside0.mk (Kd.R_lower ho8 (below_size (by repeat (first | (with_reducible first | exact HB.out | apply below_alloc | apply pw_below_drewN | apply below_drew1) | exact HB.out)))); have n1_ := Aside0.mk (below_step (by repeat (first | (with_reducible first | exact HB.out | apply below_alloc | apply pw_below_drewN | apply below_drew1) | exact HB.out)) hb); clear HB; have HO139 := n0_; have HB := n1_; clear n0_ n1_; clear HM; have HM := nM_; clear nM_; clear hb ho8))
            repeat (go_quiet (first | ((with_reducible refine gate_dst (N := 22) rfl ?_); (try (refine gate_guard (by rfl) ?_; dsimp only)); refine Kd.R_make (Kd.int .i64) _ 3 rfl (N := 22) rfl 56 _ _ rfl (l0.length : Int) rfl rfl Try.underlying56 (.int .i64 0) 8 info3 rfl (by decide) (by omega) 0 (ok := fun _ => True) (okp := fun _ => True) rfl (fun _ hk => hk) trivial (of_decide_eq_true (by first | (with_reducible assumption) | assumption)) (Nat.le_trans (Nat.mul_le_mul_right _ (of_decide_eq_true (by first | (with_reducible assumption) | assumption) : (l0.length : Int).toNat ≤ 35184372088832)) (by omega)) (Below.refl _ _) (Nat.le_refl _) ?_; intro v138 w7 ho8 hb hg_ hnew_; clear hg_ hnew_; (first | rw [← Ny137.out] at ho8 | (simp only [Int.reduceToNat] at ho8; rw [← Ny137.out] at ho8)); have nM_ := Aside0.mk (MSet.below' HM.out hb); have n0_ := Aside0.mk (Kd.R_lower ho8 (below_size (by repeat (first | (with_reducible first | exact HB.out | apply below_alloc | apply pw_below_drewN | apply below_drew1) | exact HB.out)))); have n1_ := Aside0.mk (below_step (by repeat (first | (with_reducible first | exact HB.out | apply below_alloc | apply pw_below_drewN | apply below_drew1) | exact HB.out)) hb); clear HB; have HO139 := n0_; have HB := n1_; clear n0_ n1_; clear HM; have HM := nM_; clear nM_; clear hb ho8)); try go_wp2_with (first | ((with_reducible refine gate_dst (N := 22) rfl ?_); (try (refine gate_guard (by rfl) ?_; dsimp only)); refine Kd.R_make (Kd.int .i64) _ 3 rfl (N := 22) rfl 56 _ _ rfl (l0.length : Int) rfl rfl Try.underlying56 (.int .i64 0) 8 info3 rfl (by decide) (by omega) 0 (ok := fun _ => True) (okp := fun _ => True) rfl (fun _ hk => hk) trivial (of_decide_eq_true (by first | (with_reducible assumption) | assumption)) (Nat.le_trans (Nat.mul_le_mul_right _ (of_decide_eq_true (by first | (with_reducible assumption) | assumption) : (l0.length : Int).toNat ≤ 35184372088832)) (by omega)) (Below.refl _ _) (Nat.le_refl _) ?_; intro v138 w7 ho8 hb hg_ hnew_; clear hg_ hnew_; (first | rw [← Ny137.out] at ho8 | (simp only [Int.reduceToNat] at ho8; rw [← Ny137.out] at ho8)); have nM_ := Aside0.mk (MSet.below' HM.out hb); have n0_ := Aside0.mk (Kd.R_lower ho8 (below_size (by repeat (first | (with_reducible first | exact HB.out | apply below_alloc | apply pw_below_drewN | apply below_drew1) | exact HB.out)))); have n1_ := Aside0.mk (below_step (by repeat (first | (with_reducible first | exact HB.out | apply below_alloc | apply pw_below_drewN | apply below_drew1) | exact HB.out)) hb); clear HB; have HO139 := n0_; have HB := n1_; clear n0_ n1_; clear HM; have HM := nM_; clear nM_; clear hb ho8)))
            go_loopg [25] kj1 (fun kq v25 w' => ∃ (x5_2 : List Int) (x25_2 : Int), v25 = .int .i64 x25_2 ∧ Aside0 (impl_depths.l0 kq l0 x5_2 l0 (l0.length : Int) x25_2 = some (r1, r2)) ∧ Aside0 (kq ≤ kj1) ∧ Aside0 (Kd.R (Kd.int .i64) 3 w' w.heap.size (fun _ => True) v138 x5_2) ∧ Aside0 (Below w.heap.size w w') ∧ Aside0 (MSet Try.prog 9 3 (MapAid.Keys Try.prog 9 (impl_depths.P l0 x25_2)) w' bM (x25_2 : Int).toNat))
            case atStart => exact ⟨(y137), (0), (by first | rfl | (simp; done) | (simp [*]; done)), H', ⟨Nat.le_refl _⟩, ⟨by (with_reducible repeat (first | apply Kd.R_alloc | apply Kd.R_drewN | apply Kd.R_drew)); exact HO139.out⟩, ⟨by repeat (first | (with_reducible first | exact HB.out | apply below_alloc | apply pw_below_drewN | apply below_drew1) | exact HB.out)⟩, ⟨by repeat (first | (with_reducible exact HM.out) | (with_reducible apply MSet.alloc) | (with_reducible apply MSet.drewN) | (with_reducible apply MSet.drew) | (refine MSet.set ?_ (show bM ≠ gb141 from NE141.out) _))⟩⟩
            case round =>
              clear H'
              try clear p2
              try clear c3
              try clear c3b0
              try clear c3b1
              try clear c4
              try clear c5
              try clear c5b0
              try clear c5b1
              try clear c6
              try clear c6b0
              try clear c6b1
              try clear p2
              obtain ⟨x5_2, x25_2, rfl, HA, HK2, HO_5, HB, HM⟩ := hrel
              cases gk with
              | zero => exact absurd HA.out (by simp [impl_depths.l0])
              | succ k2 =>
                have H := HA.out
                clear HA
                simp only [impl_depths.l0] at H
                by_cases c9 : x25_2 < (l0.length : Int)
                · rw [if_pos c9] at H
                  have c9b0 : decide (x25_2 < (l0.length : Int)) = true := decide_eq_true c9
                  clear c9
                  by_cases c10 : 0 ≤ x25_2
                  · rw [if_pos c10] at H
                    have c10b0 : decide (0 ≤ x25_2) = true := decide_eq_true c10
                    clear c10
                    by_cases c11 : x25_2 < (l0.length : Int)
                    · rw [if_pos c11] at H
                      have c11b0 : decide (x25_2 < (l0.length : Int)) = true := decide_eq_true c11
                      clear c11
                      replace H := Option.bind_eq_some_iff.mp H
                      obtain ⟨⟨t142, t143⟩, A120, H⟩ := H
                      replace H : (if t143 = true then (impl_depths.j2 k2 l0 x5_2 x25_2 l0 (l0.length : Int) x25_2 true ((rd_T53 l0 x25_2).f0) ((rd_T53 l0 x25_2).f1) ((rd_T53 l0 x25_2).f2)) else ((impl_NameOk.f k2 ((rd_T53 l0 x25_2).f0)).bind fun t144 => (if t144 = true then ((impl_kindOk.f ((rd_T53 l0 x25_2).f2)).bind fun t145 => (impl_depths.j2 k2 l0 x5_2 x25_2 l0 (l0.length : Int) x25_2 (!t145) ((rd_T53 l0 x25_2).f0) ((rd_T53 l0 x25_2).f1) ((rd_T53 l0 x25_2).f2))) else (impl_depths.j2 k2 l0 x5_2 x25_2 l0 (l0.length : Int) x25_2 true ((rd_T53 l0 x25_2).f0) ((rd_T53 l0 x25_2).f1) ((rd_T53 l0 x25_2).f2))))) = some (r1, r2) := H
                      have A12 := Aside0.mk A120
                      clear A120
                      have HC13 := Aside0.mk H
                      clear H
                      have HI_ : Aside0 (0 ≤ x25_2 ∧ x25_2 < (l0.length : Int) ∧ l0.length ≤ 35184372088832) := Aside0.mk ⟨of_decide_eq_true (by assumption), of_decide_eq_true (by assumption), HL6.out⟩
                      have HL_ := Aside0.mk (impl_depths_seen.small A12.out)
                      have HS_ := Aside0.mk (impl_depths_seen.tells A12.out)
                      have p140 : 0 ≤ (x25_2 : Int) := of_decide_eq_true (by first | (with_reducible assumption) | assumption)
                      have q140 : x25_2 < (l0.length : Int) := of_decide_eq_true (by first | (with_reducible assumption) | assumption)
                      obtain ⟨ad140, e140, hx140_0, hx140_1, hx140_2⟩ := at_T53 HR0.out x25_2 p140 q140
                      cases e140
                      replace hx140_0 := (HB.out.cell (World.block_lt_of_cell? w _ hx140_0)).trans hx140_0
                      replace hx140_1 := (HB.out.cell (World.block_lt_of_cell? w _ hx140_1)).trans hx140_1
                      replace hx140_2 := (HB.out.cell (World.block_lt_of_cell? w _ hx140_2)).trans hx140_2
                      replace p140 := eq_true p140
                      replace q140 := eq_true q140
                      go_upto_region 9 with (first | ((with_reducible refine gate_dst (N := 7) rfl ?_); (try (refine gate_guard (by rfl) ?_; dsimp only)); refine box_event ?hg (N := 7) ?hd (cs := #[.string (⟨#[]⟩ : ByteArray), .int .i64 0, .int .i64 0]) (t := 53) ?hr ?_; (case hd => rfl); (case hg => rfl); (case hr => first | (go_simp; done) | (go_simp; rfl)); intro gb141 hg w14 hbox hb; have nM_ := Aside0.mk (MSet.below' (by repeat (first | (with_reducible exact HM.out) | (with_reducible apply MSet.alloc) | (with_reducible apply MSet.drewN) | (with_reducible apply MSet.drew) | (refine MSet.set ?_ (show bM ≠ gb141 from NE141.out) _))) hb); have n0_ := Aside0.mk (Kd.R_below (by (with_reducible repeat (first | apply Kd.R_alloc | apply Kd.R_drewN | apply Kd.R_drew)); exact HO_5.out) hb); have n1_ := Aside0.mk (below_step (by repeat (first | (with_reducible first | exact HB.out | apply below_alloc | apply pw_below_drewN | apply below_drew1) | exact HB.out)) hb); have n2_ := Aside0.mk (hbox); have n3_ := Aside0.mk ((by rw [hg]; exact (below_size (by repeat (first | (with_reducible first | exact HB.out | apply below_alloc | apply pw_below_drewN | apply below_drew1) | exact HB.out))) : w.heap.size ≤ gb141)); have n4_ := Aside0.mk ((by rw [hg]; exact (below_size (by repeat (first | (with_reducible first | exact HB.out | apply below_alloc | apply pw_below_drewN | apply below_drew1) | exact HB.out))) : w.heap.size ≤ gb141)); clear HO_5; clear HB; have HO_5 := n0_; have HB := n1_; have BK141 := n2_; have GW141 := n3_; have GE141 := n4_; clear n0_ n1_ n2_ n3_ n4_; clear HM; have HM := nM_; clear nM_; have NE141 := Aside0.mk (MSet.ne_cells HM.out BK141.out); clear hb hbox hg; have hcz15_0 : w14.cell? ⟨gb141, 0, none⟩ = some (.string (⟨#[]⟩ : ByteArray)) := (blk_cell BK141.out 0).trans rfl; have hcz15_1 : w14.cell? ⟨gb141, 1, none⟩ = some (.int .i64 0) := (blk_cell BK141.out 1).trans rfl; have hcz15_2 : w14.cell? ⟨gb141, 2, none⟩ = some (.int .i64 0) := (blk_cell BK141.out 2).trans rfl; have hfz15_0 := blk_frozen BK141.out 0; have hfz15_1 := blk_frozen BK141.out 1; have hfz15_2 := blk_frozen BK141.out 2) | (at_lookup; refine wp_look (b := bM) (n := (x25_2 : Int).toNat) (p := impl_depths.P l0 x25_2) rfl _ _ 83 rfl (string_keyed Try.underlying9) Try.underlying83 Try.underlying3 (impl_depths.zeroE _) (by repeat (first | (with_reducible exact HM.out) | (with_reducible apply MSet.alloc) | (with_reducible apply MSet.drewN) | (with_reducible apply MSet.drew) | (refine MSet.set ?_ (show bM ≠ gb141 from NE141.out) _))) rfl (.string ((rd_T53 l0 x25_2).f0)) _ rfl (WideMaps.keyOf_string_mk Try.underlying9 HL_.out) t143 HS_.out ?_; intro cM_))
                      repeat (go_quiet (first | ((with_reducible refine gate_dst (N := 7) rfl ?_); (try (refine gate_guard (by rfl) ?_; dsimp only)); refine box_event ?hg (N := 7) ?hd (cs := #[.string (⟨#[]⟩ : ByteArray), .int .i64 0, .int .i64 0]) (t := 53) ?hr ?_; (case hd => rfl); (case hg => rfl); (case hr => first | (go_simp; done) | (go_simp; rfl)); intro gb141 hg w14 hbox hb; have nM_ := Aside0.mk (MSet.below' (by repeat (first | (with_reducible exact HM.out) | (with_reducible apply MSet.alloc) | (with_reducible apply MSet.drewN) | (with_reducible apply MSet.drew) | (refine MSet.set ?_ (show bM ≠ gb141 from NE141.out) _))) hb); have n0_ := Aside0.mk (Kd.R_below (by (with_reducible repeat (first | apply Kd.R_alloc | apply Kd.R_drewN | apply Kd.R_drew)); exact HO_5.out) hb); have n1_ := Aside0.mk (below_step (by repeat (first | (with_reducible first | exact HB.out | apply below_alloc | apply pw_below_drewN | apply below_drew1) | exact HB.out)) hb); have n2_ := Aside0.mk (hbox); have n3_ := Aside0.mk ((by rw [hg]; exact (below_size (by repeat (first | (with_reducible first | exact HB.out | apply below_alloc | apply pw_below_drewN | apply below_drew1) | exact HB.out))) : w.heap.size ≤ gb141)); have n4_ := Aside0.mk ((by rw [hg]; exact (below_size (by repeat (first | (with_reducible first | exact HB.out | apply below_alloc | apply pw_below_drewN | apply below_drew1) | exact HB.out))) : w.heap.size ≤ gb141)); clear HO_5; clear HB; have HO_5 := n0_; have HB := n1_; have BK141 := n2_; have GW141 := n3_; have GE141 := n4_; clear n0_ n1_ n2_ n3_ n4_; clear HM; have HM := nM_; clear nM_; have NE141 := Aside0.mk (MSet.ne_cells HM.out BK141.out); clear hb hbox hg; have hcz15_0 : w14.cell? ⟨gb141, 0, none⟩ = some (.string (⟨#[]⟩ : ByteArray)) := (blk_cell BK141.out 0).trans rfl; have hcz15_1 : w14.cell? ⟨gb141, 1, none⟩ = some (.int .i64 0) := (blk_cell BK141.out 1).trans rfl; have hcz15_2 : w14.cell? ⟨gb141, 2, none⟩ = some (.int .i64 0) := (blk_cell BK141.out 2).trans rfl; have hfz15_0 := blk_frozen BK141.out 0; have hfz15_1 := blk_frozen BK141.out 1; have hfz15_2 := blk_frozen BK141.out 2) | (at_lookup; refine wp_look (b := bM) (n := (x25_2 : Int).toNat) (p := impl_depths.P l0 x25_2) rfl _ _ 83 rfl (string_keyed Try.underlying9) Try.underlying83 Try.underlying3 (impl_depths.zeroE _) (by repeat (first | (with_reducible exact HM.out) | (with_reducible apply MSet.alloc) | (with_reducible apply MSet.drewN) | (with_reducible apply MSet.drew) | (refine MSet.set ?_ (show bM ≠ gb141 from NE141.out) _))) rfl (.string ((rd_T53 l0 x25_2).f0)) _ rfl (WideMaps.keyOf_string_mk Try.underlying9 HL_.out) t143 HS_.out ?_; intro cM_)); go_upto_region 9 with (first | ((with_reducible refine gate_dst (N := 7) rfl ?_); (try (refine gate_guard (by rfl) ?_; dsimp only)); refine box_event ?hg (N := 7) ?hd (cs := #[.string (⟨#[]⟩ : ByteArray), .int .i64 0, .int .i64 0]) (t := 53) ?hr ?_; (case hd => rfl); (case hg => rfl); (case hr => first | (go_simp; done) | (go_simp; rfl)); intro gb141 hg w14 hbox hb; have nM_ := Aside0.mk (MSet.below' (by repeat (first | (with_reducible exact HM.out) | (with_reducible apply MSet.alloc) | (with_reducible apply MSet.drewN) | (with_reducible apply MSet.drew) | (refine MSet.set ?_ (show bM ≠ gb141 from NE141.out) _))) hb); have n0_ := Aside0.mk (Kd.R_below (by (with_reducible repeat (first | apply Kd.R_alloc | apply Kd.R_drewN | apply Kd.R_drew)); exact HO_5.out) hb); have n1_ := Aside0.mk (below_step (by repeat (first | (with_reducible first | exact HB.out | apply below_alloc | apply pw_below_drewN | apply below_drew1) | exact HB.out)) hb); have n2_ := Aside0.mk (hbox); have n3_ := Aside0.mk ((by rw [hg]; exact (below_size (by repeat (first | (with_reducible first | exact HB.out | apply below_alloc | apply pw_below_drewN | apply below_drew1) | exact HB.out))) : w.heap.size ≤ gb141)); have n4_ := Aside0.mk ((by rw [hg]; exact (below_size (by repeat (first | (with_reducible first | exact HB.out | apply below_alloc | apply pw_below_drewN | apply below_drew1) | exact HB.out))) : w.heap.size ≤ gb141)); clear HO_5; clear HB; have HO_5 := n0_; have HB := n1_; have BK141 := n2_; have GW141 := n3_; have GE141 := n4_; clear n0_ n1_ n2_ n3_ n4_; clear HM; have HM := nM_; clear nM_; have NE141 := Aside0.mk (MSet.ne_cells HM.out BK141.out); clear hb hbox hg; have hcz15_0 : w14.cell? ⟨gb141, 0, none⟩ = some (.string (⟨#[]⟩ : ByteArray)) := (blk_cell BK141.out 0).trans rfl; have hcz15_1 : w14.cell? ⟨gb141, 1, none⟩ = some (.int .i64 0) := (blk_cell BK141.out 1).trans rfl; have hcz15_2 : w14.cell? ⟨gb141, 2, none⟩ = some (.int .i64 0) := (blk_cell BK141.out 2).trans rfl; have hfz15_0 := blk_frozen BK141.out 0; have hfz15_1 := blk_frozen BK141.out 1; have hfz15_2 := blk_frozen BK141.out 2) | (at_lookup; refine wp_look (b := bM) (n := (x25_2 : Int).toNat) (p := impl_depths.P l0 x25_2) rfl _ _ 83 rfl (string_keyed Try.underlying9) Try.underlying83 Try.underlying3 (impl_depths.zeroE _) (by repeat (first | (with_reducible exact HM.out) | (with_reducible apply MSet.alloc) | (with_reducible apply MSet.drewN) | (with_reducible apply MSet.drew) | (refine MSet.set ?_ (show bM ≠ gb141 from NE141.out) _))) rfl (.string ((rd_T53 l0 x25_2).f0)) _ rfl (WideMaps.keyOf_string_mk Try.underlying9 HL_.out) t143 HS_.out ?_; intro cM_)))
                      (try simp only [Act.put, List.setIfInBounds_toArray, List.set_cons_zero, List.set_cons_succ])
                      go_cut [49] (fun v49 wc => ∃ (kq : Nat) (x49_12 : Bool), v49 = .bool x49_12 ∧ Aside0 (impl_depths.j2 kq l0 x5_2 x25_2 l0 (l0.length : Int) x25_2 x49_12 ((rd_T53 l0 x25_2).f0) ((rd_T53 l0 x25_2).f1) ((rd_T53 l0 x25_2).f2) = some (r1, r2)) ∧ Aside0 (kq ≤ k2) ∧ Aside0 (Kd.R (Kd.int .i64) 3 wc w.heap.size (fun _ => True) v138 x5_2) ∧ Aside0 (wc.heap[gb141]? = some (.cells #[.string ((rd_T53 l0 x25_2).f0), .int .i64 ((rd_T53 l0 x25_2).f1), .int .i64 ((rd_T53 l0 x25_2).f2)] 53 (0, 0))) ∧ Aside0 (Below w.heap.size w wc) ∧ Aside0 (MSet Try.prog 9 3 (MapAid.Keys Try.prog 9 (impl_depths.P l0 x25_2)) wc bM (x25_2 : Int).toNat))
                      case first =>
                        have H := HC13.out
                        clear HC13
                        by_cases c16 : t143 = true
                        · subst c16
                          have H1 : (impl_depths.j2 k2 l0 x5_2 x25_2 l0 (l0.length : Int) x25_2 true ((rd_T53 l0 x25_2).f0) ((rd_T53 l0 x25_2).f1) ((rd_T53 l0 x25_2).f2)) = some (r1, r2) := by rw [if_pos rfl] at H; exact H
                          clear H
                          have H := H1
                          clear H1
                          have H' := Aside0.mk H
                          clear H
                          go_wp2
                          repeat (go_quiet (fail); try go_wp2)
                          go_meet
                          case rel => exact ⟨_, (true), (by first | rfl | (simp; done) | (simp [*]; done)), H', ⟨by have := HJ1.out; have := HK2.out; first | omega | exact Nat.le_refl _⟩, ⟨by (with_reducible repeat (first | apply Kd.R_alloc | apply Kd.R_drewN | apply Kd.R_drew)); exact Kd.R_mono (Kd.R_far (p := ⟨gb141, 2, none⟩) (Kd.R_far (p := ⟨gb141, 1, none⟩) (Kd.R_far (p := ⟨gb141, 0, none⟩) (Kd.R_types HO_5.out BK141.out (by decide)) (fun _ hk => hk.2) (.string ((rd_T53 l0 x25_2).f0))) (fun _ hk => hk.2) (.int .i64 ((rd_T53 l0 x25_2).f1))) (fun _ hk => hk.2) (.int .i64 ((rd_T53 l0 x25_2).f2))) (fun _ hk => trivial)⟩, ⟨by (with_reducible repeat (first | refine blk_drewN ?_ _ | refine blk_drew ?_ | refine blk_alloc ?_ _)); refine blk_put (cs := #[.string ((rd_T53 l0 x25_2).f0), .int .i64 ((rd_T53 l0 x25_2).f1), .int .i64 0]) ?_ 2 _ rfl; (with_reducible repeat (first | refine blk_drewN ?_ _ | refine blk_drew ?_ | refine blk_alloc ?_ _)); refine blk_put (cs := #[.string ((rd_T53 l0 x25_2).f0), .int .i64 0, .int .i64 0]) ?_ 1 _ rfl; (with_reducible repeat (first | refine blk_drewN ?_ _ | refine blk_drew ?_ | refine blk_alloc ?_ _)); refine blk_put (cs := #[.string (⟨#[]⟩ : ByteArray), .int .i64 0, .int .i64 0]) ?_ 0 _ rfl; (with_reducible repeat (first | refine blk_drewN ?_ _ | refine blk_drew ?_ | refine blk_alloc ?_ _)); exact BK141.out⟩, ⟨by repeat (first | (with_reducible first | exact HB.out | apply below_alloc | apply pw_below_drewN | apply below_drew1 | refine below_set ?_ GE141.out) | exact HB.out)⟩, ⟨by repeat (first | (with_reducible exact HM.out) | (with_reducible apply MSet.alloc) | (with_reducible apply MSet.drewN) | (with_reducible apply MSet.drew) | (refine MSet.set ?_ (show bM ≠ gb141 from NE141.out) _))⟩⟩
                        · replace c16 := Bool.eq_false_iff.mpr c16
                          subst c16
                          have H1 : ((impl_NameOk.f k2 ((rd_T53 l0 x25_2).f0)).bind fun t144 => (if t144 = true then ((impl_kindOk.f ((rd_T53 l0 x25_2).f2)).bind fun t145 => (impl_depths.j2 k2 l0 x5_2 x25_2 l0 (l0.length : Int) x25_2 (!t145) ((rd_T53 l0 x25_2).f0) ((rd_T53 l0 x25_2).f1) ((rd_T53 l0 x25_2).f2))) else (impl_depths.j2 k2 l0 x5_2 x25_2 l0 (l0.length : Int) x25_2 true ((rd_T53 l0 x25_2).f0) ((rd_T53 l0 x25_2).f1) ((rd_T53 l0 x25_2).f2)))) = some (r1, r2) := by rw [if_neg (show ¬ (false = true) by decide)] at H; exact H
                          clear H
                          have H := H1
                          clear H1
                          replace H := Option.bind_eq_some_iff.mp H
                          obtain ⟨t144, A170, H⟩ := H
                          replace H : (if t144 = true then ((impl_kindOk.f ((rd_T53 l0 x25_2).f2)).bind fun t145 => (impl_depths.j2 k2 l0 x5_2 x25_2 l0 (l0.length : Int) x25_2 (!t145) ((rd_T53 l0 x25_2).f0) ((rd_T53 l0 x25_2).f1) ((rd_T53 l0 x25_2).f2))) else (impl_depths.j2 k2 l0 x5_2 x25_2 l0 (l0.length : Int) x25_2 true ((rd_T53 l0 x25_2).f0) ((rd_T53 l0 x25_2).f1) ((rd_T53 l0 x25_2).f2))) = some (r1, r2) := H
                          have A17 := Aside0.mk A170
                          clear A170
                          by_cases c18 : t144 = true
                          · subst c18
                            have H1 : ((impl_kindOk.f ((rd_T53 l0 x25_2).f2)).bind fun t145 => (impl_depths.j2 k2 l0 x5_2 x25_2 l0 (l0.length : Int) x25_2 (!t145) ((rd_T53 l0 x25_2).f0) ((rd_T53 l0 x25_2).f1) ((rd_T53 l0 x25_2).f2))) = some (r1, r2) := by rw [if_pos rfl] at H; exact H
                            clear H
                            have H := H1
                            clear H1
                            replace H := Option.bind_eq_some_iff.mp H
                            obtain ⟨t145, A190, H⟩ := H
                            replace H : (impl_depths.j2 k2 l0 x5_2 x25_2 l0 (l0.length : Int) x25_2 (!t145) ((rd_T53 l0 x25_2).f0) ((rd_T53 l0 x25_2).f1) ((rd_T53 l0 x25_2).f2)) = some (r1, r2) := H
                            have A19 := Aside0.mk A190
                            clear A190
                            have H' := Aside0.mk H
                            clear H
                            have hcz20_0 : w14.cell? ⟨gb141, 0, none⟩ = some (.string (⟨#[]⟩ : ByteArray)) := (blk_cell BK141.out 0).trans rfl
                            have hcz20_1 : w14.cell? ⟨gb141, 1, none⟩ = some (.int .i64 0) := (blk_cell BK141.out 1).trans rfl
                            have hcz20_2 : w14.cell? ⟨gb141, 2, none⟩ = some (.int .i64 0) := (blk_cell BK141.out 2).trans rfl
                            have hfz20_0 := blk_frozen BK141.out 0
                            have hfz20_1 := blk_frozen BK141.out 1
                            have hfz20_2 := blk_frozen BK141.out 2
                            go_wp2_with (first | (go_at_call 55; (with_reducible refine (impl_NameOk.calls k2 ((rd_T53 l0 x25_2).f0) true _ A17.out).mono ?_); rintro e w' ⟨rfl, ⟨nd, rfl⟩⟩; (try first | exact ⟨rfl, _, World.drewN_drewN _ _ _⟩ | exact ⟨rfl, _, Eq.trans (World.drewN_drewN _ _ _) (congrArg (World.drewN _) (Nat.add_assoc _ _ _))⟩)) | (go_at_call 56; (with_reducible refine (impl_kindOk.calls ((rd_T53 l0 x25_2).f2) t145 _ A19.out).mono ?_); rintro e w' ⟨rfl, ⟨nd, rfl⟩⟩; (try first | exact ⟨rfl, _, World.drewN_drewN _ _ _⟩ | exact ⟨rfl, _, Eq.trans (World.drewN_drewN _ _ _) (congrArg (World.drewN _) (Nat.add_assoc _ _ _))⟩)))
                            repeat (go_quiet (first | (go_at_call 55; (with_reducible refine (impl_NameOk.calls k2 ((rd_T53 l0 x25_2).f0) true _ A17.out).mono ?_); rintro e w' ⟨rfl, ⟨nd, rfl⟩⟩; (try first | exact ⟨rfl, _, World.drewN_drewN _ _ _⟩ | exact ⟨rfl, _, Eq.trans (World.drewN_drewN _ _ _) (congrArg (World.drewN _) (Nat.add_assoc _ _ _))⟩)) | (go_at_call 56; (with_reducible refine (impl_kindOk.calls ((rd_T53 l0 x25_2).f2) t145 _ A19.out).mono ?_); rintro e w' ⟨rfl, ⟨nd, rfl⟩⟩; (try first | exact ⟨rfl, _, World.drewN_drewN _ _ _⟩ | exact ⟨rfl, _, Eq.trans (World.drewN_drewN _ _ _) (congrArg (World.drewN _) (Nat.add_assoc _ _ _))⟩))); try go_wp2_with (first | (go_at_call 55; (with_reducible refine (impl_NameOk.calls k2 ((rd_T53 l0 x25_2).f0) true _ A17.out).mono ?_); rintro e w' ⟨rfl, ⟨nd, rfl⟩⟩; (try first | exact ⟨rfl, _, World.drewN_drewN _ _ _⟩ | exact ⟨rfl, _, Eq.trans (World.drewN_drewN _ _ _) (congrArg (World.drewN _) (Nat.add_assoc _ _ _))⟩)) | (go_at_call 56; (with_reducible refine (impl_kindOk.calls ((rd_T53 l0 x25_2).f2) t145 _ A19.out).mono ?_); rintro e w' ⟨rfl, ⟨nd, rfl⟩⟩; (try first | exact ⟨rfl, _, World.drewN_drewN _ _ _⟩ | exact ⟨rfl, _, Eq.trans (World.drewN_drewN _ _ _) (congrArg (World.drewN _) (Nat.add_assoc _ _ _))⟩))))
                            go_meet
                            case rel => exact ⟨_, (!t145), (by first | rfl | (simp; done) | (simp [*]; done)), H', ⟨by have := HJ1.out; have := HK2.out; first | omega | exact Nat.le_refl _⟩, ⟨by (with_reducible repeat (first | apply Kd.R_alloc | apply Kd.R_drewN | apply Kd.R_drew)); exact Kd.R_mono (Kd.R_far (p := ⟨gb141, 2, none⟩) (Kd.R_far (p := ⟨gb141, 1, none⟩) (Kd.R_far (p := ⟨gb141, 0, none⟩) (Kd.R_types HO_5.out BK141.out (by decide)) (fun _ hk => hk.2) (.string ((rd_T53 l0 x25_2).f0))) (fun _ hk => hk.2) (.int .i64 ((rd_T53 l0 x25_2).f1))) (fun _ hk => hk.2) (.int .i64 ((rd_T53 l0 x25_2).f2))) (fun _ hk => trivial)⟩, ⟨by (with_reducible repeat (first | refine blk_drewN ?_ _ | refine blk_drew ?_ | refine blk_alloc ?_ _)); refine blk_put (cs := #[.string ((rd_T53 l0 x25_2).f0), .int .i64 ((rd_T53 l0 x25_2).f1), .int .i64 0]) ?_ 2 _ rfl; (with_reducible repeat (first | refine blk_drewN ?_ _ | refine blk_drew ?_ | refine blk_alloc ?_ _)); refine blk_put (cs := #[.string ((rd_T53 l0 x25_2).f0), .int .i64 0, .int .i64 0]) ?_ 1 _ rfl; (with_reducible repeat (first | refine blk_drewN ?_ _ | refine blk_drew ?_ | refine blk_alloc ?_ _)); refine blk_put (cs := #[.string (⟨#[]⟩ : ByteArray), .int .i64 0, .int .i64 0]) ?_ 0 _ rfl; (with_reducible repeat (first | refine blk_drewN ?_ _ | refine blk_drew ?_ | refine blk_alloc ?_ _)); exact BK141.out⟩, ⟨by repeat (first | (with_reducible first | exact HB.out | apply below_alloc | apply pw_below_drewN | apply below_drew1 | refine below_set ?_ GE141.out) | exact HB.out)⟩, ⟨by repeat (first | (with_reducible exact HM.out) | (with_reducible apply MSet.alloc) | (with_reducible apply MSet.drewN) | (with_reducible apply MSet.drew) | (refine MSet.set ?_ (show bM ≠ gb141 from NE141.out) _))⟩⟩
                          · replace c18 := Bool.eq_false_iff.mpr c18
                            subst c18
                            have H1 : (impl_depths.j2 k2 l0 x5_2 x25_2 l0 (l0.length : Int) x25_2 true ((rd_T53 l0 x25_2).f0) ((rd_T53 l0 x25_2).f1) ((rd_T53 l0 x25_2).f2)) = some (r1, r2) := by rw [if_neg (show ¬ (false = true) by decide)] at H; exact H
                            clear H
                            have H := H1
                            clear H1
                            have H' := Aside0.mk H
                            clear H
                            have hcz21_0 : w14.cell? ⟨gb141, 0, none⟩ = some (.string (⟨#[]⟩ : ByteArray)) := (blk_cell BK141.out 0).trans rfl
                            have hcz21_1 : w14.cell? ⟨gb141, 1, none⟩ = some (.int .i64 0) := (blk_cell BK141.out 1).trans rfl
                            have hcz21_2 : w14.cell? ⟨gb141, 2, none⟩ = some (.int .i64 0) := (blk_cell BK141.out 2).trans rfl
                            have hfz21_0 := blk_frozen BK141.out 0
                            have hfz21_1 := blk_frozen BK141.out 1
                            have hfz21_2 := blk_frozen BK141.out 2
                            go_wp2_with (first | (go_at_call 55; (with_reducible refine (impl_NameOk.calls k2 ((rd_T53 l0 x25_2).f0) false _ A17.out).mono ?_); rintro e w' ⟨rfl, ⟨nd, rfl⟩⟩; (try first | exact ⟨rfl, _, World.drewN_drewN _ _ _⟩ | exact ⟨rfl, _, Eq.trans (World.drewN_drewN _ _ _) (congrArg (World.drewN _) (Nat.add_assoc _ _ _))⟩)))
                            repeat (go_quiet (first | (go_at_call 55; (with_reducible refine (impl_NameOk.calls k2 ((rd_T53 l0 x25_2).f0) false _ A17.out).mono ?_); rintro e w' ⟨rfl, ⟨nd, rfl⟩⟩; (try first | exact ⟨rfl, _, World.drewN_drewN _ _ _⟩ | exact ⟨rfl, _, Eq.trans (World.drewN_drewN _ _ _) (congrArg (World.drewN _) (Nat.add_assoc _ _ _))⟩))); try go_wp2_with (first | (go_at_call 55; (with_reducible refine (impl_NameOk.calls k2 ((rd_T53 l0 x25_2).f0) false _ A17.out).mono ?_); rintro e w' ⟨rfl, ⟨nd, rfl⟩⟩; (try first | exact ⟨rfl, _, World.drewN_drewN _ _ _⟩ | exact ⟨rfl, _, Eq.trans (World.drewN_drewN _ _ _) (congrArg (World.drewN _) (Nat.add_assoc _ _ _))⟩))))
                            go_meet
                            case rel => exact ⟨_, (true), (by first | rfl | (simp; done) | (simp [*]; done)), H', ⟨by have := HJ1.out; have := HK2.out; first | omega | exact Nat.le_refl _⟩, ⟨by (with_reducible repeat (first | apply Kd.R_alloc | apply Kd.R_drewN | apply Kd.R_drew)); exact Kd.R_mono (Kd.R_far (p := ⟨gb141, 2, none⟩) (Kd.R_far (p := ⟨gb141, 1, none⟩) (Kd.R_far (p := ⟨gb141, 0, none⟩) (Kd.R_types HO_5.out BK141.out (by decide)) (fun _ hk => hk.2) (.string ((rd_T53 l0 x25_2).f0))) (fun _ hk => hk.2) (.int .i64 ((rd_T53 l0 x25_2).f1))) (fun _ hk => hk.2) (.int .i64 ((rd_T53 l0 x25_2).f2))) (fun _ hk => trivial)⟩, ⟨by (with_reducible repeat (first | refine blk_drewN ?_ _ | refine blk_drew ?_ | refine blk_alloc ?_ _)); refine blk_put (cs := #[.string ((rd_T53 l0 x25_2).f0), .int .i64 ((rd_T53 l0 x25_2).f1), .int .i64 0]) ?_ 2 _ rfl; (with_reducible repeat (first | refine blk_drewN ?_ _ | refine blk_drew ?_ | refine blk_alloc ?_ _)); refine blk_put (cs := #[.string ((rd_T53 l0 x25_2).f0), .int .i64 0, .int .i64 0]) ?_ 1 _ rfl; (with_reducible repeat (first | refine blk_drewN ?_ _ | refine blk_drew ?_ | refine blk_alloc ?_ _)); refine blk_put (cs := #[.string (⟨#[]⟩ : ByteArray), .int .i64 0, .int .i64 0]) ?_ 0 _ rfl; (with_reducible repeat (first | refine blk_drewN ?_ _ | refine blk_drew ?_ | refine blk_alloc ?_ _)); exact BK141.out⟩, ⟨by repeat (first | (with_reducible first | exact HB.out | apply below_alloc | apply pw_below_drewN | apply below_drew1 | refine below_set ?_ GE141.out) | exact HB.out)⟩, ⟨by repeat (first | (with_reducible exact HM.out) | (with_reducible apply MSet.alloc) | (with_reducible apply MSet.drewN) | (with_reducible apply MSet.drew) | (refine MSet.set ?_ (show bM ≠ gb141 from NE141.out) _))⟩⟩
                      case rest =>
                        clear HC13
                        try clear c1
                        try clear p1
                        try clear q1
                        try clear hx1
                        try clear p2
                        try clear c3
                        try clear c3b0
                        try clear c3b1
                        try clear c4
                        try clear c5
                        try clear c5b0
                        try clear c5b1
                        try clear c6
                        try clear c6b0
                        try clear c6b1
                        try clear c9
                        try clear c9b0
                        try clear c10
                        try clear c10b0
                        try clear c11
                        try clear c11b0
                        try clear p14
                        try clear q14
                        try clear hx14
                        try clear c16
                        try clear c18
                        try clear hcz15_0
                        try clear hcz15_1
                        try clear hcz15_2
                        try clear hcz20_0
                        try clear hcz20_1
                        try clear hcz20_2
                        try clear hcz21_0
                        try clear hcz21_1
                        try clear hcz21_2
                        try clear hfz15_0
                        try clear hfz15_1
                        try clear hfz15_2
                        try clear hfz20_0
                        try clear hfz20_1
                        try clear hfz20_2
                        try clear hfz21_0
                        try clear hfz21_1
                        try clear hfz21_2
                        try clear hx140_0
                        try clear hx140_1
                        try clear hx140_2
                        try clear p140
                        try clear p2
                        try clear q140
                        obtain ⟨kq, x49_12, rfl, HA, HJ12, HO_5, BK141, HB, HM⟩ := hcut
                        cases kq with
                        | zero => exact absurd HA.out (by simp [impl_depths.j2])
                        | succ kj12 =>
                          have H := HA.out
                          clear HA
                          simp only [impl_depths.j2] at H
                          by_cases c22 : x49_12 = true
                          · subst c22
                            have H1 : (some (([] : List Int), false)) = some (r1, r2) := by rw [if_pos rfl] at H; exact H
                            clear H
                            have H := H1
                            clear H1
                            simp only [Option.some.injEq, Prod.mk.injEq] at H
                            obtain ⟨rfl, rfl⟩ := H
                            go_wp2
                            repeat (go_quiet (fail); try go_wp2)
                            go_ret2
                            exact ⟨_, by first | rfl | (simp [errW_none, errW_some] <;> rfl) | (simp [*, errW_none, errW_some] <;> rfl), by first | exact Kd.R_nil _ _ _ _ _ | exact Kd.N_nil _ _ _ _ _ | exact Kd.V_nil _ _ _ _ _ | exact Kd.Q_nil _ _ _ _ _ | exact Kd.S_nil _ _ _ _ _, by repeat (first | (with_reducible first | exact HB.out | apply below_alloc | apply pw_below_drewN | apply below_drew1 | refine below_set ?_ GE141.out) | exact HB.out)⟩
                          · replace c22 := Bool.eq_false_iff.mpr c22
                            subst c22
                            have H1 : (if ((rd_T53 l0 x25_2).f1) = (-1) then (impl_depths.l0 kj12 l0 x5_2 l0 (l0.length : Int) (wrap64 (x25_2 + 1))) else (impl_depths.l1 kj12 l0 x5_2 x25_2 (wrap64 (x25_2 - 1)) l0 (l0.length : Int) x25_2 ((rd_T53 l0 x25_2).f0) ((rd_T53 l0 x25_2).f1) ((rd_T53 l0 x25_2).f2))) = some (r1, r2) := by rw [if_neg (show ¬ (false = true) by decide)] at H; exact H
                            clear H
                            have H := H1
                            clear H1
                            by_cases c23 : ((rd_T53 l0 x25_2).f1) = (-1)
                            · rw [if_pos c23] at H
                              have c23b0 : (((rd_T53 l0 x25_2).f1) == (-1)) = true := beq_iff_eq.mpr c23
                              have c23b1 : (((rd_T53 l0 x25_2).f1) != (-1)) = false := bne_eq_false_iff_eq.mpr c23
                              clear c23
                              have H' := Aside0.mk H
                              clear H
                              have hcz24_0 : wc.cell? ⟨gb141, 0, none⟩ = some (.string ((rd_T53 l0 x25_2).f0)) := (blk_cell BK141.out 0).trans rfl
                              have hcz24_1 : wc.cell? ⟨gb141, 1, none⟩ = some (.int .i64 ((rd_T53 l0 x25_2).f1)) := (blk_cell BK141.out 1).trans rfl
                              have hcz24_2 : wc.cell? ⟨gb141, 2, none⟩ = some (.int .i64 ((rd_T53 l0 x25_2).f2)) := (blk_cell BK141.out 2).trans rfl
                              have hfz24_0 := blk_frozen BK141.out 0
                              have hfz24_1 := blk_frozen BK141.out 1
                              have hfz24_2 := blk_frozen BK141.out 2
                              go_wp2_with (first | (at_mapUpdate; refine wp_put (b := bM) (n := (x25_2 : Int).toNat) (p := impl_depths.P l0 x25_2) rfl _ _ _ 83 rfl (string_keyed Try.underlying9) Try.underlying83 Try.underlying3 (by repeat (first | (with_reducible exact HM.out) | (with_reducible apply MSet.alloc) | (with_reducible apply MSet.drewN) | (with_reducible apply MSet.drew) | (refine MSet.set ?_ (show bM ≠ gb141 from NE141.out) _))) rfl (by have hi_ := HI_.out; unfold maxLen; omega) (.string ((rd_T53 l0 x25_2).f0)) _ x25_2 rfl rfl (WideMaps.keyOf_string_mk Try.underlying9 HL_.out) (by have hi_ := HI_.out; exact WalkArith.wf_i64 (by omega)) ?_; intro wM hM hgM; have n0_ := Aside0.mk (MSet.row (Q := MapAid.Keys Try.prog 9 (impl_depths.P l0 x25_2)) (k := 9) (e := 3) (n := (x25_2 : Int).toNat) (P := Try.prog) (hg := hgM) (h := (by repeat (first | (with_reducible exact HM.out) | (with_reducible apply MSet.alloc) | (with_reducible apply MSet.drewN) | (with_reducible apply MSet.drew) | (refine MSet.set ?_ (show bM ≠ gb141 from NE141.out) _)))) (hr := (by (with_reducible repeat (first | apply Kd.R_alloc | apply Kd.R_drewN | apply Kd.R_drew)); exact HO_5.out))); have n1_ := Aside0.mk (MSet.blk (Q := MapAid.Keys Try.prog 9 (impl_depths.P l0 x25_2)) (k := 9) (e := 3) (n := (x25_2 : Int).toNat) (P := Try.prog) (hg := hgM) (h := (by repeat (first | (with_reducible exact HM.out) | (with_reducible apply MSet.alloc) | (with_reducible apply MSet.drewN) | (with_reducible apply MSet.drew) | (refine MSet.set ?_ (show bM ≠ gb141 from NE141.out) _)))) (hc := (by (with_reducible repeat (first | refine blk_drewN ?_ _ | refine blk_drew ?_ | refine blk_alloc ?_ _)); exact BK141.out))); have n2_ := Aside0.mk (MSet.belowOf hgM (by repeat (first | (with_reducible first | exact HB.out | apply below_alloc | apply pw_below_drewN | apply below_drew1) | exact HB.out)) GEM.out); have n3_ := Aside0.mk (impl_depths.next HI_.out hM); clear HO_5 BK141 HB HM; have HO_5 := n0_; have BK141 := n1_; have HB := n2_; have HM := n3_; clear n0_ n1_ n2_ n3_ hM hgM; have hcM_0 := (blk_cell BK141.out 0).trans rfl; have hcM_1 : wM.cell? ⟨gb141, 1, none⟩ = some (.int .i64 ((rd_T53 l0 x25_2).f1)) := (blk_cell BK141.out 1).trans rfl; have hcM_2 : wM.cell? ⟨gb141, 2, none⟩ = some (.int .i64 ((rd_T53 l0 x25_2).f2)) := (blk_cell BK141.out 2).trans rfl; clear hcM_0) | (fail))
                              repeat (go_quiet (fail); try go_wp2)
                              go_roundg kj12
                              case measure => have := HJ1.out; have := HK2.out; have := HJ12.out; omega
                              case rel => exact ⟨(x5_2), (wrap64 (x25_2 + 1)), (by first | rfl | (simp; done) | (simp [*]; done)), H', ⟨by have := HJ1.out; have := HK2.out; have := HJ12.out; omega⟩, ⟨by (with_reducible repeat (first | apply Kd.R_alloc | apply Kd.R_drewN | apply Kd.R_drew)); exact HO_5.out⟩, ⟨by repeat (first | (with_reducible first | exact HB.out | apply below_alloc | apply pw_below_drewN | apply below_drew1 | refine below_set ?_ GE141.out) | exact HB.out)⟩, ⟨by repeat (first | (with_reducible exact HM.out) | (with_reducible apply MSet.alloc) | (with_reducible apply MSet.drewN) | (with_reducible apply MSet.drew) | (refine MSet.set ?_ (show bM ≠ gb141 from NE141.out) _))⟩⟩
                            · rw [if_neg c23] at H
                              have c23b0 : (((rd_T53 l0 x25_2).f1) == (-1)) = false := beq_eq_false_iff_ne.mpr c23
                              have c23b1 : (((rd_T53 l0 x25_2).f1) != (-1)) = true := bne_iff_ne.mpr c23
                              have H' := Aside0.mk H
                              clear H
                              have hcz25_0 : wc.cell? ⟨gb141, 0, none⟩ = some (.string ((rd_T53 l0 x25_2).f0)) := (blk_cell BK141.out 0).trans rfl
                              have hcz25_1 : wc.cell? ⟨gb141, 1, none⟩ = some (.int .i64 ((rd_T53 l0 x25_2).f1)) := (blk_cell BK141.out 1).trans rfl
                              have hcz25_2 : wc.cell? ⟨gb141, 2, none⟩ = some (.int .i64 ((rd_T53 l0 x25_2).f2)) := (blk_cell BK141.out 2).trans rfl
                              have hfz25_0 := blk_frozen BK141.out 0
                              have hfz25_1 := blk_frozen BK141.out 1
                              have hfz25_2 := blk_frozen BK141.out 2
                              go_wp2_with (first | (at_mapUpdate; refine wp_put (b := bM) (n := (x25_2 : Int).toNat) (p := impl_depths.P l0 x25_2) rfl _ _ _ 83 rfl (string_keyed Try.underlying9) Try.underlying83 Try.underlying3 (by repeat (first | (with_reducible exact HM.out) | (with_reducible apply MSet.alloc) | (with_reducible apply MSet.drewN) | (with_reducible apply MSet.drew) | (refine MSet.set ?_ (show bM ≠ gb141 from NE141.out) _))) rfl (by have hi_ := HI_.out; unfold maxLen; omega) (.string ((rd_T53 l0 x25_2).f0)) _ x25_2 rfl rfl (WideMaps.keyOf_string_mk Try.underlying9 HL_.out) (by have hi_ := HI_.out; exact WalkArith.wf_i64 (by omega)) ?_; intro wM hM hgM; have n0_ := Aside0.mk (MSet.row (Q := MapAid.Keys Try.prog 9 (impl_depths.P l0 x25_2)) (k := 9) (e := 3) (n := (x25_2 : Int).toNat) (P := Try.prog) (hg := hgM) (h := (by repeat (first | (with_reducible exact HM.out) | (with_reducible apply MSet.alloc) | (with_reducible apply MSet.drewN) | (with_reducible apply MSet.drew) | (refine MSet.set ?_ (show bM ≠ gb141 from NE141.out) _)))) (hr := (by (with_reducible repeat (first | apply Kd.R_alloc | apply Kd.R_drewN | apply Kd.R_drew)); exact HO_5.out))); have n1_ := Aside0.mk (MSet.blk (Q := MapAid.Keys Try.prog 9 (impl_depths.P l0 x25_2)) (k := 9) (e := 3) (n := (x25_2 : Int).toNat) (P := Try.prog) (hg := hgM) (h := (by repeat (first | (with_reducible exact HM.out) | (with_reducible apply MSet.alloc) | (with_reducible apply MSet.drewN) | (with_reducible apply MSet.drew) | (refine MSet.set ?_ (show bM ≠ gb141 from NE141.out) _)))) (hc := (by (with_reducible repeat (first | refine blk_drewN ?_ _ | refine blk_drew ?_ | refine blk_alloc ?_ _)); exact BK141.out))); have n2_ := Aside0.mk (MSet.belowOf hgM (by repeat (first | (with_reducible first | exact HB.out | apply below_alloc | apply pw_below_drewN | apply below_drew1) | exact HB.out)) GEM.out); have n3_ := Aside0.mk (impl_depths.next HI_.out hM); clear HO_5 BK141 HB HM; have HO_5 := n0_; have BK141 := n1_; have HB := n2_; have HM := n3_; clear n0_ n1_ n2_ n3_ hM hgM; have hcM_0 := (blk_cell BK141.out 0).trans rfl; have hcM_1 : wM.cell? ⟨gb141, 1, none⟩ = some (.int .i64 ((rd_T53 l0 x25_2).f1)) := (blk_cell BK141.out 1).trans rfl; have hcM_2 : wM.cell? ⟨gb141, 2, none⟩ = some (.int .i64 ((rd_T53 l0 x25_2).f2)) := (blk_cell BK141.out 2).trans rfl; clear hcM_0) | (fail))
                              repeat (go_quiet (fail); try go_wp2)
                              go_loopg [10] kj12 (fun kq v10 w' => ∃ (x10_4 : Int), v10 = .int .i64 x10_4 ∧ Aside0 (impl_depths.l1 kq l0 x5_2 x25_2 x10_4 l0 (l0.length : Int) x25_2 ((rd_T53 l0 x25_2).f0) ((rd_T53 l0 x25_2).f1) ((rd_T53 l0 x25_2).f2) = some (r1, r2)) ∧ Aside0 (kq ≤ kj12) ∧ Aside0 (Kd.R (Kd.int .i64) 3 w' w.heap.size (fun _ => True) v138 x5_2) ∧ Aside0 (w'.heap[gb141]? = some (.cells #[.string ((rd_T53 l0 x25_2).f0), .int .i64 ((rd_T53 l0 x25_2).f1), .int .i64 ((rd_T53 l0 x25_2).f2)] 53 (0, 0))) ∧ Aside0 (Below w.heap.size w w') ∧ Aside0 (MSet Try.prog 9 3 (MapAid.Keys Try.prog 9 (impl_depths.P l0 (wrap64 (x25_2 + 1)))) w' bM ((wrap64 (x25_2 + 1)) : Int).toNat))
                              case atStart => exact ⟨(wrap64 (x25_2 - 1)), (by first | rfl | (simp; done) | (simp [*]; done)), H', ⟨Nat.le_refl _⟩, ⟨by (with_reducible repeat (first | apply Kd.R_alloc | apply Kd.R_drewN | apply Kd.R_drew)); exact HO_5.out⟩, ⟨by (with_reducible repeat (first | refine blk_drewN ?_ _ | refine blk_drew ?_ | refine blk_alloc ?_ _)); exact BK141.out⟩, ⟨by repeat (first | (with_reducible first | exact HB.out | apply below_alloc | apply pw_below_drewN | apply below_drew1 | refine below_set ?_ GE141.out) | exact HB.out)⟩, ⟨by repeat (first | (with_reducible exact HM.out) | (with_reducible apply MSet.alloc) | (with_reducible apply MSet.drewN) | (with_reducible apply MSet.drew) | (refine MSet.set ?_ (show bM ≠ gb141 from NE141.out) _))⟩⟩
                              case round =>
                                clear H'
                                try clear c1
                                try clear p1
                                try clear q1
                                try clear hx1
                                try clear c2
                                try clear p2
                                try clear c3
                                try clear c3b0
                                try clear c3b1
                                try clear c4
                                try clear c5
                                try clear c5b0
                                try clear c5b1
                                try clear c6
                                try clear c6b0
                                try clear c6b1
                                try clear p6
                                try clear c9
                                try clear c9b0
                                try clear c10
                                try clear c10b0
                                try clear c11
                                try clear c11b0
                                try clear p14
                                try clear q14
                                try clear hx14
                                try clear c16
                                try clear c18
                                try clear c22
                                try clear c23
                                try clear c23b0
                                try clear c23b1
                                try clear hcz15_0
                                try clear hcz15_1
                                try clear hcz15_2
                                try clear hcz20_0
                                try clear hcz20_1
                                try clear hcz20_2
                                try clear hcz21_0
                                try clear hcz21_1
                                try clear hcz21_2
                                try clear hcz24_0
                                try clear hcz24_1
                                try clear hcz24_2
                                try clear hcz25_0
                                try clear hcz25_1
                                try clear hcz25_2
                                try clear hfz15_0
                                try clear hfz15_1
                                try clear hfz15_2
                                try clear hfz20_0
                                try clear hfz20_1
                                try clear hfz20_2
                                try clear hfz21_0
                                try clear hfz21_1
                                try clear hfz21_2
                                try clear hfz24_0
                                try clear hfz24_1
                                try clear hfz24_2
                                try clear hfz25_0
                                try clear hfz25_1
                                try clear hfz25_2
                                try clear hx140_0
                                try clear hx140_1
                                try clear hx140_2
                                try clear p1
                                try clear p14
                                try clear p140
                                try clear p2
                                try clear q1
                                try clear q14
                                try clear q140
                                obtain ⟨x10_4, rfl, HA, HK4, HO_5, BK141, HB, HM⟩ := hrel
                                cases gk with
                                | zero => exact absurd HA.out (by simp [impl_depths.l1])
                                | succ k4 =>
                                  have H := HA.out
                                  clear HA
                                  simp only [impl_depths.l1] at H
                                  by_cases c26 : x10_4 ≥ 0
                                  · rw [if_pos c26] at H
                                    have c26b0 : decide (0 ≤ x10_4) = true := decide_eq_true c26
                                    clear c26
                                    by_cases c27 : x10_4 = ((rd_T53 l0 x25_2).f1)
                                    · rw [if_pos c27] at H
                                      have c27b0 : (x10_4 == ((rd_T53 l0 x25_2).f1)) = true := beq_iff_eq.mpr c27
                                      have c27b1 : (x10_4 != ((rd_T53 l0 x25_2).f1)) = false := bne_eq_false_iff_eq.mpr c27
                                      clear c27
                                      by_cases c28 : x10_4 < 0
                                      · rw [if_pos c28] at H
                                        have c28b0 : decide (x10_4 < 0) = true := decide_eq_true c28
                                        clear c28
                                        simp only [Option.some.injEq, Prod.mk.injEq] at H
                                        obtain ⟨rfl, rfl⟩ := H
                                        have hcz29_0 : wr.cell? ⟨gb141, 0, none⟩ = some (.string ((rd_T53 l0 x25_2).f0)) := (blk_cell BK141.out 0).trans rfl
                                        have hcz29_1 : wr.cell? ⟨gb141, 1, none⟩ = some (.int .i64 ((rd_T53 l0 x25_2).f1)) := (blk_cell BK141.out 1).trans rfl
                                        have hcz29_2 : wr.cell? ⟨gb141, 2, none⟩ = some (.int .i64 ((rd_T53 l0 x25_2).f2)) := (blk_cell BK141.out 2).trans rfl
                                        have hfz29_0 := blk_frozen BK141.out 0
                                        have hfz29_1 := blk_frozen BK141.out 1
                                        have hfz29_2 := blk_frozen BK141.out 2
                                        go_wp2
                                        repeat (go_quiet (fail); try go_wp2)
                                        go_ret2
                                        exact ⟨_, by first | rfl | (simp [errW_none, errW_some] <;> rfl) | (simp [*, errW_none, errW_some] <;> rfl), by first | exact Kd.R_nil _ _ _ _ _ | exact Kd.N_nil _ _ _ _ _ | exact Kd.V_nil _ _ _ _ _ | exact Kd.Q_nil _ _ _ _ _ | exact Kd.S_nil _ _ _ _ _, by repeat (first | (with_reducible first | exact HB.out | apply below_alloc | apply pw_below_drewN | apply below_drew1 | refine below_set ?_ GE141.out) | exact HB.out)⟩
                                      · rw [if_neg c28] at H
                                        have c28b0 : decide (x10_4 < 0) = false := decide_eq_false c28
                                        clear c28
                                        by_cases c30 : 0 ≤ x10_4
                                        · rw [if_pos c30] at H
                                          have c30b0 : decide (0 ≤ x10_4) = true := decide_eq_true c30
                                          clear c30
                                          by_cases c31 : x10_4 < (l0.length : Int)
                                          · rw [if_pos c31] at H
                                            have c31b0 : decide (x10_4 < (l0.length : Int)) = true := decide_eq_true c31
                                            clear c31
                                            by_cases c32 : ((rd_T53 l0 x10_4).f2) = ((rd_T53 l0 x25_2).f2)
                                            · rw [if_pos c32] at H
                                              have c32b0 : (((rd_T53 l0 x10_4).f2) == ((rd_T53 l0 x25_2).f2)) = true := beq_iff_eq.mpr c32
                                              have c32b1 : (((rd_T53 l0 x10_4).f2) != ((rd_T53 l0 x25_2).f2)) = false := bne_eq_false_iff_eq.mpr c32
                                              clear c32
                                              by_cases c33 : x10_4 < (x5_2.length : Int)
                                              · rw [if_pos c33] at H
                                                have c33b0 : decide (x10_4 < (x5_2.length : Int)) = true := decide_eq_true c33
                                                clear c33
                                                by_cases c34 : (rd x5_2 x10_4) ≥ 8
                                                · rw [if_pos c34] at H
                                                  have c34b0 : decide (8 ≤ (rd x5_2 x10_4)) = true := decide_eq_true c34
                                                  clear c34
                                                  simp only [Option.some.injEq, Prod.mk.injEq] at H
                                                  obtain ⟨rfl, rfl⟩ := H
                                                  have hcz35_0 : wr.cell? ⟨gb141, 0, none⟩ = some (.string ((rd_T53 l0 x25_2).f0)) := (blk_cell BK141.out 0).trans rfl
                                                  have hcz35_1 : wr.cell? ⟨gb141, 1, none⟩ = some (.int .i64 ((rd_T53 l0 x25_2).f1)) := (blk_cell BK141.out 1).trans rfl
                                                  have hcz35_2 : wr.cell? ⟨gb141, 2, none⟩ = some (.int .i64 ((rd_T53 l0 x25_2).f2)) := (blk_cell BK141.out 2).trans rfl
                                                  have hfz35_0 := blk_frozen BK141.out 0
                                                  have hfz35_1 := blk_frozen BK141.out 1
                                                  have hfz35_2 := blk_frozen BK141.out 2
                                                  have p146 : 0 ≤ (x10_4 : Int) := of_decide_eq_true (by first | (with_reducible assumption) | assumption)
                                                  have q146 : x10_4 < (l0.length : Int) := of_decide_eq_true (by first | (with_reducible assumption) | assumption)
                                                  obtain ⟨ad146, e146, hx146_0, hx146_1, hx146_2⟩ := at_T53 HR0.out x10_4 p146 q146
                                                  obtain rfl : ad140 = ad146 := (by injection e146)
                                                  replace hx146_0 := (HB.out.cell (World.block_lt_of_cell? w _ hx146_0)).trans hx146_0
                                                  replace hx146_1 := (HB.out.cell (World.block_lt_of_cell? w _ hx146_1)).trans hx146_1
                                                  replace hx146_2 := (HB.out.cell (World.block_lt_of_cell? w _ hx146_2)).trans hx146_2
                                                  replace p146 := eq_true p146
                                                  replace q146 := eq_true q146
                                                  obtain ⟨Ao36, co36, eo36⟩ := Kd.R_slice HO_5.out
                                                  subst eo36
                                                  have p147 : 0 ≤ (x10_4 : Int) := of_decide_eq_true (by first | (with_reducible assumption) | assumption)
                                                  have q147 : x10_4 < (x5_2.length : Int) := of_decide_eq_true (by first | (with_reducible assumption) | assumption)
                                                  obtain ⟨ad147, e147, hx147_0⟩ := Kd.at_int (Kd.R_reads' HO_5.out).2.2 x10_4 p147 q147
                                                  cases e147
                                                  replace p147 := eq_true p147
                                                  replace q147 := eq_true q147
                                                  go_wp2
                                                  repeat (go_quiet (fail); try go_wp2)
                                                  go_ret2
                                                  exact ⟨_, by first | rfl | (simp [errW_none, errW_some] <;> rfl) | (simp [*, errW_none, errW_some] <;> rfl), by first | exact Kd.R_nil _ _ _ _ _ | exact Kd.N_nil _ _ _ _ _ | exact Kd.V_nil _ _ _ _ _ | exact Kd.Q_nil _ _ _ _ _ | exact Kd.S_nil _ _ _ _ _, by repeat (first | (with_reducible first | exact HB.out | apply below_alloc | apply pw_below_drewN | apply below_drew1 | refine below_set ?_ GE141.out) | exact HB.out)⟩
                                                · rw [if_neg c34] at H
                                                  have c34b0 : decide (8 ≤ (rd x5_2 x10_4)) = false := decide_eq_false c34
                                                  clear c34
                                                  by_cases c37 : 0 ≤ x25_2
                                                  · rw [if_pos c37] at H
                                                    have c37b0 : decide (0 ≤ x25_2) = true := decide_eq_true c37
                                                    clear c37
                                                    by_cases c38 : x25_2 < (x5_2.length : Int)
                                                    · rw [if_pos c38] at H
                                                      have c38b0 : decide (x25_2 < (x5_2.length : Int)) = true := decide_eq_true c38
                                                      clear c38
                                                      obtain ⟨y149, hy149⟩ : ∃ y_ : List Int, y_ = (x5_2.set (x25_2 : Int).toNat (wrap64 ((rd x5_2 x10_4) + 1))) := ⟨_, rfl⟩
                                                      replace H : (impl_depths.l0 k4 l0 y149 l0 (l0.length : Int) (wrap64 (x25_2 + 1))) = some (r1, r2) := by first | (rw [hy149]; with_reducible exact H) | (have H2_ := (Option.bind_some _ _).symm.trans H; rw [hy149]; with_reducible exact H2_) | (have H2_ := (Option.bind_some _ _).symm.trans H; with_reducible exact H2_) | with_reducible exact H | (rw [hy149]; exact H) | exact H
                                                      have Ny149 := Aside0.mk hy149
                                                      clear hy149
                                                      have H' := Aside0.mk H
                                                      clear H
                                                      have hcz40_0 : wr.cell? ⟨gb141, 0, none⟩ = some (.string ((rd_T53 l0 x25_2).f0)) := (blk_cell BK141.out 0).trans rfl
                                                      have hcz40_1 : wr.cell? ⟨gb141, 1, none⟩ = some (.int .i64 ((rd_T53 l0 x25_2).f1)) := (blk_cell BK141.out 1).trans rfl
                                                      have hcz40_2 : wr.cell? ⟨gb141, 2, none⟩ = some (.int .i64 ((rd_T53 l0 x25_2).f2)) := (blk_cell BK141.out 2).trans rfl
                                                      have hfz40_0 := blk_frozen BK141.out 0
                                                      have hfz40_1 := blk_frozen BK141.out 1
                                                      have hfz40_2 := blk_frozen BK141.out 2
                                                      have p146 : 0 ≤ (x10_4 : Int) := of_decide_eq_true (by first | (with_reducible assumption) | assumption)
                                                      have q146 : x10_4 < (l0.length : Int) := of_decide_eq_true (by first | (with_reducible assumption) | assumption)
                                                      obtain ⟨ad146, e146, hx146_0, hx146_1, hx146_2⟩ := at_T53 HR0.out x10_4 p146 q146
                                                      obtain rfl : ad140 = ad146 := (by injection e146)
                                                      replace hx146_0 := (HB.out.cell (World.block_lt_of_cell? w _ hx146_0)).trans hx146_0
                                                      replace hx146_1 := (HB.out.cell (World.block_lt_of_cell? w _ hx146_1)).trans hx146_1
                                                      replace hx146_2 := (HB.out.cell (World.block_lt_of_cell? w _ hx146_2)).trans hx146_2
                                                      replace p146 := eq_true p146
                                                      replace q146 := eq_true q146
                                                      obtain ⟨Ao41, co41, eo41⟩ := Kd.R_slice HO_5.out
                                                      subst eo41
                                                      have p147 : 0 ≤ (x10_4 : Int) := of_decide_eq_true (by first | (with_reducible assumption) | assumption)
                                                      have q147 : x10_4 < (x5_2.length : Int) := of_decide_eq_true (by first | (with_reducible assumption) | assumption)
                                                      obtain ⟨ad147, e147, hx147_0⟩ := Kd.at_int (Kd.R_reads' HO_5.out).2.2 x10_4 p147 q147
                                                      cases e147
                                                      replace p147 := eq_true p147
                                                      replace q147 := eq_true q147
                                                      have p148 : 0 ≤ (x10_4 : Int) := of_decide_eq_true (by first | (with_reducible assumption) | assumption)
                                                      have q148 : x10_4 < (x5_2.length : Int) := of_decide_eq_true (by first | (with_reducible assumption) | assumption)
                                                      obtain ⟨ad148, e148, hx148_0⟩ := Kd.at_int (Kd.R_reads' HO_5.out).2.2 x10_4 p148 q148
                                                      obtain rfl : ad147 = ad148 := (by injection e148)
                                                      replace p148 := eq_true p148
                                                      replace q148 := eq_true q148
                                                      have p39 : 0 ≤ (x25_2 : Int) := of_decide_eq_true (by first | (with_reducible assumption) | assumption)
                                                      have q39 : (x25_2 : Int) < ((x5_2.length : Int) : Int) := of_decide_eq_true (by first | (with_reducible assumption) | assumption)
                                                      obtain ⟨go39, co39, eo39, gb39, gl39, cl39, HG39⟩ := Kd.R_form HO_5.out (by omega)
                                                      (first | cases eo39 | (injection eo39 with ea_ en_ ec_; (first | subst ea_ | (injection ea_ with ea_; subst ea_)); subst ec_; clear en_))
                                                      have GB39 := Aside0.mk gb39
                                                      have GG39 := Aside0.mk HG39
                                                      clear gb39 gl39 HG39
                                                      (first | simp only [add_plain] at hx147_0 | skip)
                                                      (first | simp only [add_plain] at hx148_0 | skip)
                                                      obtain ⟨hx39_0, hf39_0⟩ := Kd.R_celln 0 HO_5.out (x25_2 : Int) p39 q39
                                                      replace p39 := eq_true p39
                                                      replace q39 := eq_true q39
                                                      have HP42 := Kd.R_putg HO_5.out (x25_2 : Int) (wrap64 ((rd x5_2 x10_4) + 1))
                                                      go_wp2_with (first | ((with_reducible refine gate_store (t := 3) (p := 98) rfl ?_); (try (rw [drewN_self wr]; generalize hq_ : World.drewN wr _ = wr; have nM_ := Aside0.mk (MSet.at_ hq_ (MSet.drewN HM.out _)); have n0_ := Aside0.mk (Kd.R_at hq_ HO_5.out); have n1_ := Aside0.mk (blk_at hq_ BK141.out); have n2_ := Aside0.mk (below_at hq_ HB.out); clear hq_ HO_5 BK141 HB; have HO_5 := n0_; have BK141 := n1_; have HB := n2_; clear HM; have HM := nM_; clear nM_; clear n0_ n1_ n2_; (try (have HP42 := Kd.R_putg HO_5.out (x25_2 : Int) (wrap64 ((rd x5_2 x10_4) + 1)))))); refine store_event (t := 3) (p := 98) (v := ?vo_w43) (w1 := (wr.setCell ⟨go39, (x25_2 : Int).toNat, none⟩ (.int .i64 (wrap64 ((rd x5_2 x10_4) + 1))))) ?hg ?ho ?hn ?hr ?_; (case ho => rfl); (case hg => rfl); (case hn => rfl); (case hr => first | (go_simp; done) | (go_simp; rfl)); intro w43 hw; have hg : wr.grownBy w43 (some go39) := (by rw [hw]; exact HP42.2); have hp_ : Kd.R (Kd.int .i64) 3 w43 w.heap.size (fun _ => True) (.slice (some ⟨go39, 0, none⟩) x5_2.length co41) y149 := (by rw [hw, Ny149.out]; exact HP42.1); clear HP42; have nM_ := Aside0.mk (MSet.grown HM.out hg (MSet.ne_row HM.out HO_5.out)); have n0_ := Aside0.mk (hp_); have n1_ := Aside0.mk (blk_grown (g := gb141) (o := .cells #[.string ((rd_T53 l0 x25_2).f0), .int .i64 ((rd_T53 l0 x25_2).f1), .int .i64 ((rd_T53 l0 x25_2).f2)] 53 (0, 0)) (by (with_reducible repeat (first | refine blk_drewN ?_ _ | refine blk_drew ?_ | refine blk_alloc ?_ _)); exact BK141.out) hg (Kd.R_ne HO_5.out BK141.out (by decide))); have n2_ := Aside0.mk ((by rw [hw]; exact below_set (HB.out) GB39.out : Below w.heap.size w w43)); clear HO_5; clear BK141; clear HB; have HO_5 := n0_; have BK141 := n1_; have HB := n2_; clear HM; have HM := nM_; clear nM_; clear n0_ n1_ n2_; clear hg hw hp_))
                                                      repeat (go_quiet (first | ((with_reducible refine gate_store (t := 3) (p := 98) rfl ?_); (try (rw [drewN_self wr]; generalize hq_ : World.drewN wr _ = wr; have nM_ := Aside0.mk (MSet.at_ hq_ (MSet.drewN HM.out _)); have n0_ := Aside0.mk (Kd.R_at hq_ HO_5.out); have n1_ := Aside0.mk (blk_at hq_ BK141.out); have n2_ := Aside0.mk (below_at hq_ HB.out); clear hq_ HO_5 BK141 HB; have HO_5 := n0_; have BK141 := n1_; have HB := n2_; clear HM; have HM := nM_; clear nM_; clear n0_ n1_ n2_; (try (have HP42 := Kd.R_putg HO_5.out (x25_2 : Int) (wrap64 ((rd x5_2 x10_4) + 1)))))); refine store_event (t := 3) (p := 98) (v := ?vo_w43) (w1 := (wr.setCell ⟨go39, (x25_2 : Int).toNat, none⟩ (.int .i64 (wrap64 ((rd x5_2 x10_4) + 1))))) ?hg ?ho ?hn ?hr ?_; (case ho => rfl); (case hg => rfl); (case hn => rfl); (case hr => first | (go_simp; done) | (go_simp; rfl)); intro w43 hw; have hg : wr.grownBy w43 (some go39) := (by rw [hw]; exact HP42.2); have hp_ : Kd.R (Kd.int .i64) 3 w43 w.heap.size (fun _ => True) (.slice (some ⟨go39, 0, none⟩) x5_2.length co41) y149 := (by rw [hw, Ny149.out]; exact HP42.1); clear HP42; have nM_ := Aside0.mk (MSet.grown HM.out hg (MSet.ne_row HM.out HO_5.out)); have n0_ := Aside0.mk (hp_); have n1_ := Aside0.mk (blk_grown (g := gb141) (o := .cells #[.string ((rd_T53 l0 x25_2).f0), .int .i64 ((rd_T53 l0 x25_2).f1), .int .i64 ((rd_T53 l0 x25_2).f2)] 53 (0, 0)) (by (with_reducible repeat (first | refine blk_drewN ?_ _ | refine blk_drew ?_ | refine blk_alloc ?_ _)); exact BK141.out) hg (Kd.R_ne HO_5.out BK141.out (by decide))); have n2_ := Aside0.mk ((by rw [hw]; exact below_set (HB.out) GB39.out : Below w.heap.size w w43)); clear HO_5; clear BK141; clear HB; have HO_5 := n0_; have BK141 := n1_; have HB := n2_; clear HM; have HM := nM_; clear nM_; clear n0_ n1_ n2_; clear hg hw hp_)); try go_wp2_with (first | ((with_reducible refine gate_store (t := 3) (p := 98) rfl ?_); (try (rw [drewN_self wr]; generalize hq_ : World.drewN wr _ = wr; have nM_ := Aside0.mk (MSet.at_ hq_ (MSet.drewN HM.out _)); have n0_ := Aside0.mk (Kd.R_at hq_ HO_5.out); have n1_ := Aside0.mk (blk_at hq_ BK141.out); have n2_ := Aside0.mk (below_at hq_ HB.out); clear hq_ HO_5 BK141 HB; have HO_5 := n0_; have BK141 := n1_; have HB := n2_; clear HM; have HM := nM_; clear nM_; clear n0_ n1_ n2_; (try (have HP42 := Kd.R_putg HO_5.out (x25_2 : Int) (wrap64 ((rd x5_2 x10_4) + 1)))))); refine store_event (t := 3) (p := 98) (v := ?vo_w43) (w1 := (wr.setCell ⟨go39, (x25_2 : Int).toNat, none⟩ (.int .i64 (wrap64 ((rd x5_2 x10_4) + 1))))) ?hg ?ho ?hn ?hr ?_; (case ho => rfl); (case hg => rfl); (case hn => rfl); (case hr => first | (go_simp; done) | (go_simp; rfl)); intro w43 hw; have hg : wr.grownBy w43 (some go39) := (by rw [hw]; exact HP42.2); have hp_ : Kd.R (Kd.int .i64) 3 w43 w.heap.size (fun _ => True) (.slice (some ⟨go39, 0, none⟩) x5_2.length co41) y149 := (by rw [hw, Ny149.out]; exact HP42.1); clear HP42; have nM_ := Aside0.mk (MSet.grown HM.out hg (MSet.ne_row HM.out HO_5.out)); have n0_ := Aside0.mk (hp_); have n1_ := Aside0.mk (blk_grown (g := gb141) (o := .cells #[.string ((rd_T53 l0 x25_2).f0), .int .i64 ((rd_T53 l0 x25_2).f1), .int .i64 ((rd_T53 l0 x25_2).f2)] 53 (0, 0)) (by (with_reducible repeat (first | refine blk_drewN ?_ _ | refine blk_drew ?_ | refine blk_alloc ?_ _)); exact BK141.out) hg (Kd.R_ne HO_5.out BK141.out (by decide))); have n2_ := Aside0.mk ((by rw [hw]; exact below_set (HB.out) GB39.out : Below w.heap.size w w43)); clear HO_5; clear BK141; clear HB; have HO_5 := n0_; have BK141 := n1_; have HB := n2_; clear HM; have HM := nM_; clear nM_; clear n0_ n1_ n2_; clear hg hw hp_)))
                                                      try (generalize hq_ : World.drewN wr _ = wd_; have n0_ := Aside0.mk (Kd.R_at hq_ HO_5.out); have nb_ := Aside0.mk (blk_at hq_ BK141.out); have n1_ := Aside0.mk (below_at hq_ HB.out); have nM_ := Aside0.mk (MSet.at_ hq_ (MSet.drewN HM.out _)); clear hq_ HO_5 HB BK141 HM HP42; have HO_5 := n0_; have BK141 := nb_; have HB := n1_; have HM := nM_; clear n0_ n1_ nb_ nM_; have HP42 := Kd.R_putg HO_5.out (x25_2 : Int) (wrap64 ((rd x5_2 x10_4) + 1)); generalize hw : World.setCell wd_ _ _ = w43 at HP42 ⊢; have hg : wd_.grownBy w43 (some go39) := HP42.2; have hp_ : Kd.R (Kd.int .i64) 3 w43 w.heap.size (fun _ => True) (.slice (some ⟨go39, 0, none⟩) x5_2.length co41) y149 := (by rw [Ny149.out]; exact HP42.1); clear HP42; have nM_ := Aside0.mk (MSet.grown HM.out hg (MSet.ne_row HM.out HO_5.out)); have n0_ := Aside0.mk (hp_); have n1_ := Aside0.mk (blk_grown (g := gb141) (o := .cells #[.string ((rd_T53 l0 x25_2).f0), .int .i64 ((rd_T53 l0 x25_2).f1), .int .i64 ((rd_T53 l0 x25_2).f2)] 53 (0, 0)) BK141.out hg (Kd.R_ne HO_5.out BK141.out (by decide))); have n2_ := Aside0.mk ((by rw [← hw]; exact below_set (HB.out) GB39.out : Below w.heap.size w w43)); clear HO_5 BK141 HB HM; have HO_5 := n0_; have BK141 := n1_; have HB := n2_; have HM := nM_; clear n0_ n1_ n2_ nM_; clear hg hw hp_)
                                                      go_roundg k4
                                                      case measure => have := HJ1.out; have := HK2.out; have := HJ12.out; have := HK4.out; omega
                                                      case rel => exact ⟨(y149), (wrap64 (x25_2 + 1)), (by first | rfl | (simp; done) | (simp [*]; done)), H', ⟨by have := HJ1.out; have := HK2.out; have := HJ12.out; have := HK4.out; omega⟩, ⟨by (with_reducible repeat (first | apply Kd.R_alloc | apply Kd.R_drewN | apply Kd.R_drew)); exact HO_5.out⟩, ⟨by repeat (first | (with_reducible first | exact HB.out | apply below_alloc | apply pw_below_drewN | apply below_drew1 | refine below_set ?_ GE141.out) | exact HB.out)⟩, ⟨by repeat (first | (with_reducible exact HM.out) | (with_reducible apply MSet.alloc) | (with_reducible apply MSet.drewN) | (with_reducible apply MSet.drew) | (refine MSet.set ?_ (show bM ≠ gb141 from NE141.out) _))⟩⟩
                                                    · rw [if_neg c38] at H
                                                      exact absurd H (by simp)
                                                  · rw [if_neg c37] at H
                                                    exact absurd H (by simp)
                                              · rw [if_neg c33] at H
                                                exact absurd H (by simp)
                                            · rw [if_neg c32] at H
                                              have c32b0 : (((rd_T53 l0 x10_4).f2) == ((rd_T53 l0 x25_2).f2)) = false := beq_eq_false_iff_ne.mpr c32
                                              have c32b1 : (((rd_T53 l0 x10_4).f2) != ((rd_T53 l0 x25_2).f2)) = true := bne_iff_ne.mpr c32
                                              simp only [Option.some.injEq, Prod.mk.injEq] at H
                                              obtain ⟨rfl, rfl⟩ := H
                                              have hcz44_0 : wr.cell? ⟨gb141, 0, none⟩ = some (.string ((rd_T53 l0 x25_2).f0)) := (blk_cell BK141.out 0).trans rfl
                                              have hcz44_1 : wr.cell? ⟨gb141, 1, none⟩ = some (.int .i64 ((rd_T53 l0 x25_2).f1)) := (blk_cell BK141.out 1).trans rfl
                                              have hcz44_2 : wr.cell? ⟨gb141, 2, none⟩ = some (.int .i64 ((rd_T53 l0 x25_2).f2)) := (blk_cell BK141.out 2).trans rfl
                                              have hfz44_0 := blk_frozen BK141.out 0
                                              have hfz44_1 := blk_frozen BK141.out 1
                                              have hfz44_2 := blk_frozen BK141.out 2
                                              have p146 : 0 ≤ (x10_4 : Int) := of_decide_eq_true (by first | (with_reducible assumption) | assumption)
                                              have q146 : x10_4 < (l0.length : Int) := of_decide_eq_true (by first | (with_reducible assumption) | assumption)
                                              obtain ⟨ad146, e146, hx146_0, hx146_1, hx146_2⟩ := at_T53 HR0.out x10_4 p146 q146
                                              obtain rfl : ad140 = ad146 := (by injection e146)
                                              replace hx146_0 := (HB.out.cell (World.block_lt_of_cell? w _ hx146_0)).trans hx146_0
                                              replace hx146_1 := (HB.out.cell (World.block_lt_of_cell? w _ hx146_1)).trans hx146_1
                                              replace hx146_2 := (HB.out.cell (World.block_lt_of_cell? w _ hx146_2)).trans hx146_2
                                              replace p146 := eq_true p146
                                              replace q146 := eq_true q146
                                              go_wp2
                                              repeat (go_quiet (fail); try go_wp2)
                                              go_ret2
                                              exact ⟨_, by first | rfl | (simp [errW_none, errW_some] <;> rfl) | (simp [*, errW_none, errW_some] <;> rfl), by first | exact Kd.R_nil _ _ _ _ _ | exact Kd.N_nil _ _ _ _ _ | exact Kd.V_nil _ _ _ _ _ | exact Kd.Q_nil _ _ _ _ _ | exact Kd.S_nil _ _ _ _ _, by repeat (first | (with_reducible first | exact HB.out | apply below_alloc | apply pw_below_drewN | apply below_drew1 | refine below_set ?_ GE141.out) | exact HB.out)⟩
                                          · rw [if_neg c31] at H
                                            exact absurd H (by simp)
                                        · rw [if_neg c30] at H
                                          exact absurd H (by simp)
                                    · rw [if_neg c27] at H
                                      have c27b0 : (x10_4 == ((rd_T53 l0 x25_2).f1)) = false := beq_eq_false_iff_ne.mpr c27
                                      have c27b1 : (x10_4 != ((rd_T53 l0 x25_2).f1)) = true := bne_iff_ne.mpr c27
                                      by_cases c45 : 0 ≤ x10_4
                                      · rw [if_pos c45] at H
                                        have c45b0 : decide (0 ≤ x10_4) = true := decide_eq_true c45
                                        clear c45
                                        by_cases c46 : x10_4 < (l0.length : Int)
                                        · rw [if_pos c46] at H
                                          have c46b0 : decide (x10_4 < (l0.length : Int)) = true := decide_eq_true c46
                                          clear c46
                                          have H' := Aside0.mk H
                                          clear H
                                          have hcz47_0 : wr.cell? ⟨gb141, 0, none⟩ = some (.string ((rd_T53 l0 x25_2).f0)) := (blk_cell BK141.out 0).trans rfl
                                          have hcz47_1 : wr.cell? ⟨gb141, 1, none⟩ = some (.int .i64 ((rd_T53 l0 x25_2).f1)) := (blk_cell BK141.out 1).trans rfl
                                          have hcz47_2 : wr.cell? ⟨gb141, 2, none⟩ = some (.int .i64 ((rd_T53 l0 x25_2).f2)) := (blk_cell BK141.out 2).trans rfl
                                          have hfz47_0 := blk_frozen BK141.out 0
                                          have hfz47_1 := blk_frozen BK141.out 1
                                          have hfz47_2 := blk_frozen BK141.out 2
                                          have p150 : 0 ≤ (x10_4 : Int) := of_decide_eq_true (by first | (with_reducible assumption) | assumption)
                                          have q150 : x10_4 < (l0.length : Int) := of_decide_eq_true (by first | (with_reducible assumption) | assumption)
                                          obtain ⟨ad150, e150, hx150_0, hx150_1, hx150_2⟩ := at_T53 HR0.out x10_4 p150 q150
                                          obtain rfl : ad140 = ad150 := (by injection e150)
                                          replace hx150_0 := (HB.out.cell (World.block_lt_of_cell? w _ hx150_0)).trans hx150_0
                                          replace hx150_1 := (HB.out.cell (World.block_lt_of_cell? w _ hx150_1)).trans hx150_1
                                          replace hx150_2 := (HB.out.cell (World.block_lt_of_cell? w _ hx150_2)).trans hx150_2
                                          replace p150 := eq_true p150
                                          replace q150 := eq_true q150
                                          go_wp2
                                          repeat (go_quiet (fail); try go_wp2)
                                          go_roundg k4
                                          case measure => have := HJ1.out; have := HK2.out; have := HJ12.out; have := HK4.out; omega
                                          case rel => exact ⟨((rd_T53 l0 x10_4).f1), (by first | rfl | (simp; done) | (simp [*]; done)), H', ⟨by have := HJ1.out; have := HK2.out; have := HJ12.out; have := HK4.out; omega⟩, ⟨by (with_reducible repeat (first | apply Kd.R_alloc | apply Kd.R_drewN | apply Kd.R_drew)); exact HO_5.out⟩, ⟨by (with_reducible repeat (first | refine blk_drewN ?_ _ | refine blk_drew ?_ | refine blk_alloc ?_ _)); exact BK141.out⟩, ⟨by repeat (first | (with_reducible first | exact HB.out | apply below_alloc | apply pw_below_drewN | apply below_drew1 | refine below_set ?_ GE141.out) | exact HB.out)⟩, ⟨by repeat (first | (with_reducible exact HM.out) | (with_reducible apply MSet.alloc) | (with_reducible apply MSet.drewN) | (with_reducible apply MSet.drew) | (refine MSet.set ?_ (show bM ≠ gb141 from NE141.out) _))⟩⟩
                                        · rw [if_neg c46] at H
                                          exact absurd H (by simp)
                                      · rw [if_neg c45] at H
                                        exact absurd H (by simp)
                                  · rw [if_neg c26] at H
                                    have c26b0 : decide (0 ≤ x10_4) = false := decide_eq_false c26
                                    clear c26
                                    by_cases c48 : x10_4 < 0
                                    · rw [if_pos c48] at H
                                      have c48b0 : decide (x10_4 < 0) = true := decide_eq_true c48
                                      clear c48
                                      simp only [Option.some.injEq, Prod.mk.injEq] at H
                                      obtain ⟨rfl, rfl⟩ := H
                                      go_wp2
                                      repeat (go_quiet (fail); try go_wp2)
                                      go_ret2
                                      exact ⟨_, by first | rfl | (simp [errW_none, errW_some] <;> rfl) | (simp [*, errW_none, errW_some] <;> rfl), by first | exact Kd.R_nil _ _ _ _ _ | exact Kd.N_nil _ _ _ _ _ | exact Kd.V_nil _ _ _ _ _ | exact Kd.Q_nil _ _ _ _ _ | exact Kd.S_nil _ _ _ _ _, by repeat (first | (with_reducible first | exact HB.out | apply below_alloc | apply pw_below_drewN | apply below_drew1 | refine below_set ?_ GE141.out) | exact HB.out)⟩
                                    · exact absurd (Int.not_le.mp (of_decide_eq_false c26b0)) c48
                    · rw [if_neg c11] at H
                      exact absurd H (by simp)
                  · rw [if_neg c10] at H
                    exact absurd H (by simp)
                · rw [if_neg c9] at H
                  have c9b0 : decide (x25_2 < (l0.length : Int)) = false := decide_eq_false c9
                  clear c9
                  simp only [Option.some.injEq, Prod.mk.injEq] at H
                  obtain ⟨rfl, rfl⟩ := H
                  go_wp2
                  repeat (go_quiet (fail); try go_wp2)
                  go_ret2
                  exact ⟨_, by first | rfl | (simp [errW_none, errW_some] <;> rfl) | (simp [*, errW_none, errW_some] <;> rfl), by (with_reducible repeat (first | apply Kd.R_alloc | apply Kd.R_drewN | apply Kd.R_drew)); exact HO_5.out, by repeat (first | (with_reducible first | exact HB.out | apply below_alloc | apply pw_below_drewN | apply below_drew1) | exact HB.out)⟩
          · rw [if_neg c6] at H
            exact absurd H (by simp)
        · rw [if_neg c5] at H
          exact absurd H (by simp)

end Go.Proofs.Yteeanacmhclnoab.PFnExactShowChart
