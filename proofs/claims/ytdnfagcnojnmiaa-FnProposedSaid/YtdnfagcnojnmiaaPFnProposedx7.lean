/- Lean forms and contracts of the functions that the law FnProposed reaches, laid by a program; those of functions that it does not take are hand-made. No condition is added. -/
import Derived.Test.YtdnfagcnojnmiaaPFnProposedx0
import Derived.Test.YtdnfagcnojnmiaaPFnProposedx1
import Derived.Test.YtdnfagcnojnmiaaPFnProposedx3
import Derived.Test.YtdnfagcnojnmiaaPFnProposedx4
import Derived.Test.YtdnfagcnojnmiaaPFnProposedx6
namespace Go.Proofs.Ytdnfagcnojnmiaa.PFnProposed
open Go.RowKit Go.Proofs.YtdnfagcnojnmiaaW.PrintWords Go.Proofs.YtdnfagcnojnmiaaW.PrintLast Go.Proofs.YtdnfagcnojnmiaaW.PrintMore
open Go.Maps Go.Proofs.Ytdnfagcnojnmiaa.MapAid
attribute [local go_sem] max2_int min2_int max_two min_two max_three min_three max_four min_four   -- for this text's walks alone
set_option linter.unusedVariables false
set_option linter.unusedSimpArgs false

/-! ### laws_FnProposed: function 7 -/
mutual
def laws_FnProposed.j0 : Nat → List Int → Bool → Option (Bool)
  | 0, _, _ => none
  | k + 1, x0, x36 => if x36 = true then (some false) else ((spec_DrawPropose.f k x0).bind fun bt275 => ((spec_Propose.f k bt275.1 bt275.2.1 bt275.2.2.1 bt275.2.2.2).bind fun t281 => ((impl_Propose.f k bt275.1 bt275.2.1 bt275.2.2.1 bt275.2.2.2).bind fun t284 => (if (t284.length : Int) = (t281.length : Int) then (if (t284.length : Int) = 0 then (some true) else (if 0 ≤ (bt275.1.length : Int) then (if ((bt275.1.length : Int) : Int).toNat ≤ 281474976710656 then (laws_FnProposed.l0 k bt275.1 bt275.2.2.1 bt275.2.2.2 t284 (List.replicate ((bt275.1.length : Int) : Int).toNat false) false 0) else (none)) else (none))) else (some false)))))
def laws_FnProposed.l0 : Nat → List (S54) → Int → Int → List Int → List Bool → Bool → Int → Option (Bool)
  | 0, _, _, _, _, _, _, _ => none
  | k + 1, x4, x6, x7, x9, x10, x11, x12 => if x12 < (x9.length : Int) then (if 0 ≤ x12 then (if (rd x9 x12) < 0 then (some false) else (if (rd x9 x12) ≥ (x4.length : Int) then (some false) else (if 0 ≤ (rd x9 x12) then (if (rd x9 x12) < (x10.length : Int) then (if rdOf false x10 (rd x9 x12) = true then (some false) else (if x11 = true then (if (rd x9 x12) < (x4.length : Int) then (if ((rd_T54 x4 (rd x9 x12)).f0) ≤ x6 then (some false) else (laws_FnProposed.l0 k x4 x6 (wrap64 (x7 - ((rd_T54 x4 (rd x9 x12)).f3))) x9 (x10.set ((rd x9 x12) : Int).toNat true) (decide (((rd_T54 x4 (rd x9 x12)).f0) > x6)) (wrap64 (x12 + 1)))) else (none)) else (if (rd x9 x12) < (x4.length : Int) then (laws_FnProposed.l0 k x4 x6 (wrap64 (x7 - ((rd_T54 x4 (rd x9 x12)).f3))) x9 (x10.set ((rd x9 x12) : Int).toNat true) (decide (((rd_T54 x4 (rd x9 x12)).f0) > x6)) (wrap64 (x12 + 1))) else (none)))) else (none)) else (none)))) else (none)) else (laws_FnProposed.l1 k x4 x6 x7 x10 0)
def laws_FnProposed.l1 : Nat → List (S54) → Int → Int → List Bool → Int → Option (Bool)
  | 0, _, _, _, _, _ => none
  | k + 1, x4, x6, x7, x10, x14 => if x14 < (x4.length : Int) then (if 0 ≤ x14 then (if x14 < (x10.length : Int) then (if rdOf false x10 x14 = true then (laws_FnProposed.l1 k x4 x6 x7 x10 (wrap64 (x14 + 1))) else (if ((rd_T54 x4 x14).f0) ≤ x6 then (if ((rd_T54 x4 x14).f3) ≤ x7 then (some false) else (laws_FnProposed.l1 k x4 x6 x7 x10 (wrap64 (x14 + 1)))) else (laws_FnProposed.l1 k x4 x6 x7 x10 (wrap64 (x14 + 1))))) else (none)) else (none)) else (some (decide (x7 ≥ 0)))
end
def laws_FnProposed.f (k : Nat) (l0 : List Int) : Option (Bool) := (laws_big.f l0).bind fun t266 => (if t266 = true then (some true) else ((impl_Propose.f k (([(⟨9, 3, 100, 50⟩ : S54), (⟨4, 0, 0, 70⟩ : S54), (⟨5, 0, 0, 60⟩ : S54)] : List (S54))) 1 5 125).bind fun t270 => (if (t270.length : Int) = 2 then (if 0 < (t270.length : Int) then (if (rd t270 0) = 1 then (if 1 < (t270.length : Int) then (laws_FnProposed.j0 k l0 ((rd t270 1) != 0)) else (none)) else (laws_FnProposed.j0 k l0 true)) else (none)) else (laws_FnProposed.j0 k l0 true))))
theorem laws_FnProposed.mono_l : ∀ k, (∀ y0 y1, LeO (laws_FnProposed.j0 k y0 y1) (laws_FnProposed.j0 (k + 1) y0 y1)) ∧ (∀ y0 y1 y2 y3 y4 y5 y6, LeO (laws_FnProposed.l0 k y0 y1 y2 y3 y4 y5 y6) (laws_FnProposed.l0 (k + 1) y0 y1 y2 y3 y4 y5 y6)) ∧ (∀ y0 y1 y2 y3 y4, LeO (laws_FnProposed.l1 k y0 y1 y2 y3 y4) (laws_FnProposed.l1 (k + 1) y0 y1 y2 y3 y4))
  | 0 => ⟨fun _ _ r h => by simp [laws_FnProposed.j0] at h, fun _ _ _ _ _ _ _ r h => by simp [laws_FnProposed.l0] at h, fun _ _ _ _ _ r h => by simp [laws_FnProposed.l1] at h⟩
  | k + 1 => by
    obtain ⟨ih0, ih1, ih2⟩ := laws_FnProposed.mono_l k
    refine ⟨?_, ?_, ?_⟩
    · intro y0 y1
      unfold laws_FnProposed.j0
      repeat' first
      | (with_reducible exact ih0 _ _)
      | (with_reducible exact ih1 _ _ _ _ _ _ _)
      | (with_reducible exact ih2 _ _ _ _ _)
      | (with_reducible exact impl_Propose.mono _ _ _ _ _)
      | (with_reducible exact spec_DrawPropose.mono _ _)
      | (with_reducible exact spec_Propose.mono _ _ _ _ _)
      | (with_reducible exact LeO.refl _)
      | (with_reducible exact LeO.none _)
      | (with_reducible refine LeO.ite ?_ ?_)
      | (with_reducible refine LeO.bind ?_ (fun _ => ?_))
      | exact ih0 _ _
      | exact ih1 _ _ _ _ _ _ _
      | exact ih2 _ _ _ _ _
      | exact impl_Propose.mono _ _ _ _ _
      | exact spec_DrawPropose.mono _ _
      | exact spec_Propose.mono _ _ _ _ _
      | exact LeO.none _
      | refine LeO.ite ?_ ?_
      | refine LeO.bind ?_ (fun _ => ?_)
    · intro y0 y1 y2 y3 y4 y5 y6
      unfold laws_FnProposed.l0
      repeat' first
      | (with_reducible exact ih0 _ _)
      | (with_reducible exact ih1 _ _ _ _ _ _ _)
      | (with_reducible exact ih2 _ _ _ _ _)
      | (with_reducible exact impl_Propose.mono _ _ _ _ _)
      | (with_reducible exact spec_DrawPropose.mono _ _)
      | (with_reducible exact spec_Propose.mono _ _ _ _ _)
      | (with_reducible exact LeO.refl _)
      | (with_reducible exact LeO.none _)
      | (with_reducible refine LeO.ite ?_ ?_)
      | (with_reducible refine LeO.bind ?_ (fun _ => ?_))
      | exact ih0 _ _
      | exact ih1 _ _ _ _ _ _ _
      | exact ih2 _ _ _ _ _
      | exact impl_Propose.mono _ _ _ _ _
      | exact spec_DrawPropose.mono _ _
      | exact spec_Propose.mono _ _ _ _ _
      | exact LeO.none _
      | refine LeO.ite ?_ ?_
      | refine LeO.bind ?_ (fun _ => ?_)
    · intro y0 y1 y2 y3 y4
      unfold laws_FnProposed.l1
      repeat' first
      | (with_reducible exact ih0 _ _)
      | (with_reducible exact ih1 _ _ _ _ _ _ _)
      | (with_reducible exact ih2 _ _ _ _ _)
      | (with_reducible exact impl_Propose.mono _ _ _ _ _)
      | (with_reducible exact spec_DrawPropose.mono _ _)
      | (with_reducible exact spec_Propose.mono _ _ _ _ _)
      | (with_reducible exact LeO.refl _)
      | (with_reducible exact LeO.none _)
      | (with_reducible refine LeO.ite ?_ ?_)
      | (with_reducible refine LeO.bind ?_ (fun _ => ?_))
      | exact ih0 _ _
      | exact ih1 _ _ _ _ _ _ _
      | exact ih2 _ _ _ _ _
      | exact impl_Propose.mono _ _ _ _ _
      | exact spec_DrawPropose.mono _ _
      | exact spec_Propose.mono _ _ _ _ _
      | exact LeO.none _
      | refine LeO.ite ?_ ?_
      | refine LeO.bind ?_ (fun _ => ?_)
theorem laws_FnProposed.mono : ∀ a0 k, LeO (laws_FnProposed.f k a0) (laws_FnProposed.f (k + 1) a0) := by
  intro a0 k
  obtain ⟨ih0, ih1, ih2⟩ := laws_FnProposed.mono_l k
  unfold laws_FnProposed.f
  repeat' first
      | (with_reducible exact ih0 _ _)
      | (with_reducible exact ih1 _ _ _ _ _ _ _)
      | (with_reducible exact ih2 _ _ _ _ _)
      | (with_reducible exact impl_Propose.mono _ _ _ _ _)
      | (with_reducible exact spec_DrawPropose.mono _ _)
      | (with_reducible exact spec_Propose.mono _ _ _ _ _)
      | (with_reducible exact LeO.refl _)
      | (with_reducible exact LeO.none _)
      | (with_reducible refine LeO.ite ?_ ?_)
      | (with_reducible refine LeO.bind ?_ (fun _ => ?_))
      | exact ih0 _ _
      | exact ih1 _ _ _ _ _ _ _
      | exact ih2 _ _ _ _ _
      | exact impl_Propose.mono _ _ _ _ _
      | exact spec_DrawPropose.mono _ _
      | exact spec_Propose.mono _ _ _ _ _
      | exact LeO.none _
      | refine LeO.ite ?_ ?_
      | refine LeO.bind ?_ (fun _ => ?_)
set_option maxHeartbeats 8000000 in
set_option maxRecDepth 100000 in
theorem laws_FnProposed.calls (k : Nat) (A0 : Option Addr) (c0 : Nat) (l0 : List Int) (r : Bool) (w : World) (hr0 : Kd.C (Kd.int .u8) w A0 l0.length l0) (hc0 : l0.length ≤ c0) (h : laws_FnProposed.f k l0 = some r) :
    Calls Try.prog 7 #[.slice A0 l0.length c0] w fun e w' => e = .returned (.bool r) ∧ Below w.heap.size w w' := by
  have hu54 := Try.underlying54
  have HR0 := Aside0.mk hr0
  have HC0 := Aside0.mk hc0
  clear hr0 hc0
  have HB := Aside0.mk (Below.refl w.heap.size w)
  have H : ((laws_big.f l0).bind fun t266 => (if t266 = true then (some true) else ((impl_Propose.f k (([(⟨9, 3, 100, 50⟩ : S54), (⟨4, 0, 0, 70⟩ : S54), (⟨5, 0, 0, 60⟩ : S54)] : List (S54))) 1 5 125).bind fun t270 => (if (t270.length : Int) = 2 then (if 0 < (t270.length : Int) then (if (rd t270 0) = 1 then (if 1 < (t270.length : Int) then (laws_FnProposed.j0 k l0 ((rd t270 1) != 0)) else (none)) else (laws_FnProposed.j0 k l0 true)) else (none)) else (laws_FnProposed.j0 k l0 true))))) = some r := h
  clear h
  replace H := Option.bind_eq_some_iff.mp H
  obtain ⟨t266, A20, H⟩ := H
  replace H : (if t266 = true then (some true) else ((impl_Propose.f k (([(⟨9, 3, 100, 50⟩ : S54), (⟨4, 0, 0, 70⟩ : S54), (⟨5, 0, 0, 60⟩ : S54)] : List (S54))) 1 5 125).bind fun t270 => (if (t270.length : Int) = 2 then (if 0 < (t270.length : Int) then (if (rd t270 0) = 1 then (if 1 < (t270.length : Int) then (laws_FnProposed.j0 k l0 ((rd t270 1) != 0)) else (none)) else (laws_FnProposed.j0 k l0 true)) else (none)) else (laws_FnProposed.j0 k l0 true)))) = some r := H
  have A2 := Aside0.mk A20
  clear A20
  by_cases c3 : t266 = true
  · subst c3
    have H1 : (some true) = some r := by rw [if_pos rfl] at H; exact H
    clear H
    have H := H1
    clear H1
    obtain rfl := Option.some.inj H
    go_enter Try.func7, Try.ntmps7
    go_wp2_with (first | ((with_reducible refine gate_callee (f := 26) rfl ?_); refine goesL_ (some 16) rfl rfl Try.func26 (by kernel_rfl) rfl #[.slice A0 l0.length c0] rfl (by (try simp only [List.map_toArray, List.map_cons, List.map_nil]); first | done | rfl | (simp only [List.length_drop, List.length_take]; rfl)) ?_; (with_reducible refine (laws_big.calls _ _ l0 true _ ?side1 ?side2 A2.out).mono ?_); (case side1 => repeat (first | exact HR0.out | (with_reducible refine Kd.C_alloc ?_ _) | (with_reducible refine Kd.C_drewN ?_ _) | (with_reducible refine Kd.C_drew ?_))); (case side2 => exact HC0.out); rintro e w' ⟨rfl, ⟨nd, rfl⟩⟩; refine ⟨_, rfl, ?_⟩))
    go_ret
    exact ⟨by first | rfl | (simp [errW_none, errW_some] <;> rfl) | (simp [*, errW_none, errW_some] <;> rfl), by repeat (first | (with_reducible first | exact HB.out | apply below_alloc | apply pw_below_drewN | apply below_drew1) | exact HB.out)⟩
  · replace c3 := Bool.eq_false_iff.mpr c3
    subst c3
    have H1 : ((impl_Propose.f k (([(⟨9, 3, 100, 50⟩ : S54), (⟨4, 0, 0, 70⟩ : S54), (⟨5, 0, 0, 60⟩ : S54)] : List (S54))) 1 5 125).bind fun t270 => (if (t270.length : Int) = 2 then (if 0 < (t270.length : Int) then (if (rd t270 0) = 1 then (if 1 < (t270.length : Int) then (laws_FnProposed.j0 k l0 ((rd t270 1) != 0)) else (none)) else (laws_FnProposed.j0 k l0 true)) else (none)) else (laws_FnProposed.j0 k l0 true))) = some r := by rw [if_neg (show ¬ (false = true) by decide)] at H; exact H
    clear H
    have H := H1
    clear H1
    obtain ⟨y267, hy267⟩ : ∃ y_ : List (S54), y_ = (([(⟨9, 3, 100, 50⟩ : S54), (⟨4, 0, 0, 70⟩ : S54), (⟨5, 0, 0, 60⟩ : S54)] : List (S54))) := ⟨_, rfl⟩
    replace H : ((impl_Propose.f k y267 1 5 125).bind fun t270 => (if (t270.length : Int) = 2 then (if 0 < (t270.length : Int) then (if (rd t270 0) = 1 then (if 1 < (t270.length : Int) then (laws_FnProposed.j0 k l0 ((rd t270 1) != 0)) else (none)) else (laws_FnProposed.j0 k l0 true)) else (none)) else (laws_FnProposed.j0 k l0 true))) = some r := by first | (rw [hy267]; with_reducible exact H) | (have H2_ := (Option.bind_some _ _).symm.trans H; rw [hy267]; with_reducible exact H2_) | (have H2_ := (Option.bind_some _ _).symm.trans H; with_reducible exact H2_) | with_reducible exact H | (rw [hy267]; exact H) | exact H
    have Ny267 := Aside0.mk hy267
    clear hy267
    replace H := Option.bind_eq_some_iff.mp H
    obtain ⟨t270, A40, H⟩ := H
    replace H : (if (t270.length : Int) = 2 then (if 0 < (t270.length : Int) then (if (rd t270 0) = 1 then (if 1 < (t270.length : Int) then (laws_FnProposed.j0 k l0 ((rd t270 1) != 0)) else (none)) else (laws_FnProposed.j0 k l0 true)) else (none)) else (laws_FnProposed.j0 k l0 true)) = some r := H
    have A4 := Aside0.mk A40
    clear A40
    have HC5 := Aside0.mk H
    clear H
    go_enter Try.func7, Try.ntmps7
    go_upto_region 4 with (first | ((with_reducible refine gate_callee (f := 26) rfl ?_); refine goesL_ (some 16) rfl rfl Try.func26 (by kernel_rfl) rfl #[.slice A0 l0.length c0] rfl (by (try simp only [List.map_toArray, List.map_cons, List.map_nil]); first | done | rfl | (simp only [List.length_drop, List.length_take]; rfl)) ?_; (with_reducible refine (laws_big.calls _ _ l0 false _ ?side1 ?side2 A2.out).mono ?_); (case side1 => repeat (first | exact HR0.out | (with_reducible refine Kd.C_alloc ?_ _) | (with_reducible refine Kd.C_drewN ?_ _) | (with_reducible refine Kd.C_drew ?_))); (case side2 => exact HC0.out); rintro e w' ⟨rfl, ⟨nd, rfl⟩⟩; refine ⟨_, rfl, ?_⟩) | ((with_reducible refine gate_dst (N := 20) rfl ?_); (try (refine gate_guard (by rfl) ?_; dsimp only)); refine Kd.R_lit k54 _ 54 ?hg (N := 20) ?hd (xs := ([(⟨9, 3, 100, 50⟩ : S54), (⟨4, 0, 0, 70⟩ : S54), (⟨5, 0, 0, 60⟩ : S54)] : List (S54))) (inner := [.int .i64 9, .int .i64 3, .int .i64 100, .int .i64 50, .int .i64 4, .int .i64 0, .int .i64 0, .int .i64 70, .int .i64 5, .int .i64 0, .int .i64 0, .int .i64 60]) (ok := fun _ => True) (okp := fun _ => True) ?hr ?hp (fun _ hk => hk) trivial (Below.refl _ _) (Nat.le_refl _) (by simp) ?_; (case hd => rfl); (case hg => rfl); (case hr => first | (go_simp; done) | (go_simp; rfl)); (case hp => exact (Reps.c4 (show Kd.M k54 _ _ _ (⟨9, 3, 100, 50⟩ : S54) [.int .i64 9, .int .i64 3, .int .i64 100, .int .i64 50] from (k54_mkM _ _ _ (⟨9, 3, 100, 50⟩ : S54) )) (Reps.c4 (show Kd.M k54 _ _ _ (⟨4, 0, 0, 70⟩ : S54) [.int .i64 4, .int .i64 0, .int .i64 0, .int .i64 70] from (k54_mkM _ _ _ (⟨4, 0, 0, 70⟩ : S54) )) (Reps.c4 (show Kd.M k54 _ _ _ (⟨5, 0, 0, 60⟩ : S54) [.int .i64 5, .int .i64 0, .int .i64 0, .int .i64 60] from (k54_mkM _ _ _ (⟨5, 0, 0, 60⟩ : S54) )) (Reps.none _ _))))); intro v268 w6 ho7 hb hg_ hnew_; clear hg_ hnew_; (first | rw [← Ny267.out] at ho7 | (simp only [Int.reduceToNat] at ho7; rw [← Ny267.out] at ho7)); have n0_ := Aside0.mk (Kd.R_lower ho7 (below_size (by repeat (first | (with_reducible first | exact HB.out | apply below_alloc | apply pw_below_drewN | apply below_drew1) | exact HB.out)))); have n1_ := Aside0.mk (below_step (by repeat (first | (with_reducible first | exact HB.out | apply below_alloc | apply pw_below_drewN | apply below_drew1) | exact HB.out)) hb); clear HB; have HO269 := n0_; have HB := n1_; clear n0_ n1_; clear hb ho7; obtain ⟨Ao8, co8, eo8⟩ := Kd.R_slice HO269.out; subst eo8) | ((with_reducible refine gate_callee (f := 27) rfl ?_); refine goesL_ (some 21) rfl rfl Try.func27 (by kernel_rfl) rfl #[.slice Ao8 y267.length co8, .int .i64 1, .int .i64 5, .int .i64 125] rfl (by (try simp only [List.map_toArray, List.map_cons, List.map_nil]); first | done | rfl | (simp only [List.length_drop, List.length_take]; rfl)) ?_; (with_reducible refine (impl_Propose.calls k _ _ y267 1 5 125 t270 _ ?side1 ?side2 A4.out).mono ?_); (case side1 => repeat (first | exact (Kd.R_reads' HO269.out).2.2 | (with_reducible refine Kd.C_alloc ?_ _) | (with_reducible refine Kd.C_drewN ?_ _) | (with_reducible refine Kd.C_drew ?_))); (case side2 => exact (Kd.R_reads' HO269.out).2.1); rintro e w9 ⟨v271, rfl, ho0, hb⟩; refine ⟨_, rfl, ?_⟩; have n0_ := Aside0.mk (Kd.R_below (by (with_reducible repeat (first | apply Kd.R_alloc | apply Kd.R_drewN | apply Kd.R_drew)); exact HO269.out) hb); have n1_ := Aside0.mk (Kd.R_lower ho0 (below_size (by repeat (first | (with_reducible first | exact HB.out | apply below_alloc | apply pw_below_drewN | apply below_drew1) | exact HB.out)))); have n2_ := Aside0.mk (below_step (by repeat (first | (with_reducible first | exact HB.out | apply below_alloc | apply pw_below_drewN | apply below_drew1) | exact HB.out)) hb); clear HO269; clear HB; have HO269 := n0_; have HO272 := n1_; have HB := n2_; clear n0_ n1_ n2_; (try clear hb); (try clear hb2); (try clear hk); (try clear hi); (try clear ho0)))
    (try simp only [Act.put, List.setIfInBounds_toArray, List.set_cons_zero, List.set_cons_succ])
    go_cut [36] (fun v36 wc => ∃ (kq : Nat) (x36_4 : Bool), v36 = .bool x36_4 ∧ Aside0 (laws_FnProposed.j0 kq l0 x36_4 = some r) ∧ Aside0 (kq ≤ k) ∧ Aside0 (Below w.heap.size w wc))
    case first =>
      have H := HC5.out
      clear HC5
      by_cases c10 : (t270.length : Int) = 2
      · rw [if_pos c10] at H
        have c10b0 : ((t270.length : Int) == 2) = true := beq_iff_eq.mpr c10
        have c10b1 : ((t270.length : Int) != 2) = false := bne_eq_false_iff_eq.mpr c10
        clear c10
        (first | rw [c10b0] | (simp only [i64_w, i32_w]; rw [c10b0]) | skip)
        by_cases c11 : 0 < (t270.length : Int)
        · rw [if_pos c11] at H
          have c11b0 : decide (0 < (t270.length : Int)) = true := decide_eq_true c11
          have c11b1 : decide (0 < t270.length) = true := decide_eq_true (by omega)
          clear c11
          by_cases c12 : (rd t270 0) = 1
          · rw [if_pos c12] at H
            have c12b0 : ((rd t270 0) == 1) = true := beq_iff_eq.mpr c12
            have c12b1 : ((rd t270 0) != 1) = false := bne_eq_false_iff_eq.mpr c12
            clear c12
            by_cases c13 : 1 < (t270.length : Int)
            · rw [if_pos c13] at H
              have c13b0 : decide (1 < (t270.length : Int)) = true := decide_eq_true c13
              have c13b1 : decide (1 < t270.length) = true := decide_eq_true (by omega)
              clear c13
              have H' := Aside0.mk H
              clear H
              obtain ⟨Ao14, co14, eo14⟩ := Kd.R_slice HO272.out
              subst eo14
              have p273 : 0 ≤ (0 : Int) := (by omega)
              have q273 : 0 < (t270.length : Int) := of_decide_eq_true (by first | (with_reducible assumption) | assumption)
              obtain ⟨ad273, e273, hx273_0⟩ := Kd.at_int (Kd.R_reads' HO272.out).2.2 0 p273 q273
              cases e273
              have qi273 : (0 < t270.length) = True := eq_true (by omega)
              (try rw [show ((0 : Int)).toNat = 0 from rfl] at hx273_0)
              (try rw [Addr.add_zero'] at hx273_0)
              replace p273 := eq_true p273
              replace q273 := eq_true q273
              have p274 : 0 ≤ (1 : Int) := (by omega)
              have q274 : 1 < (t270.length : Int) := of_decide_eq_true (by first | (with_reducible assumption) | assumption)
              obtain ⟨ad274, e274, hx274_0⟩ := Kd.at_int (Kd.R_reads' HO272.out).2.2 1 p274 q274
              obtain rfl : ad273 = ad274 := (by injection e274)
              (try simp only [show (1 : Int).toNat = 1 from rfl, Nat.reduceMul, Nat.reduceEqDiff, Go.Addr.add, ↓reduceIte] at hx274_0)
              have qi274 : (1 < t270.length) = True := eq_true (by omega)
              (try rw [show ((1 : Int)).toNat = 1 from rfl] at hx274_0)
              replace p274 := eq_true p274
              replace q274 := eq_true q274
              go_wp2
              go_meet
              case rel => exact ⟨_, (((rd t270 1) != 0)), (by first | rfl | (simp; done) | (simp [*]; done)), H', ⟨by first | omega | exact Nat.le_refl _⟩, ⟨by repeat (first | (with_reducible first | exact HB.out | apply below_alloc | apply pw_below_drewN | apply below_drew1) | exact HB.out)⟩⟩
            · rw [if_neg c13] at H
              exact absurd H (by simp)
          · rw [if_neg c12] at H
            have c12b0 : ((rd t270 0) == 1) = false := beq_eq_false_iff_ne.mpr c12
            have c12b1 : ((rd t270 0) != 1) = true := bne_iff_ne.mpr c12
            have H' := Aside0.mk H
            clear H
            obtain ⟨Ao15, co15, eo15⟩ := Kd.R_slice HO272.out
            subst eo15
            have p273 : 0 ≤ (0 : Int) := (by omega)
            have q273 : 0 < (t270.length : Int) := of_decide_eq_true (by first | (with_reducible assumption) | assumption)
            obtain ⟨ad273, e273, hx273_0⟩ := Kd.at_int (Kd.R_reads' HO272.out).2.2 0 p273 q273
            cases e273
            have qi273 : (0 < t270.length) = True := eq_true (by omega)
            (try rw [show ((0 : Int)).toNat = 0 from rfl] at hx273_0)
            (try rw [Addr.add_zero'] at hx273_0)
            replace p273 := eq_true p273
            replace q273 := eq_true q273
            go_wp2
            go_meet
            case rel => exact ⟨_, (true), (by first | rfl | (simp; done) | (simp [*]; done)), H', ⟨by first | omega | exact Nat.le_refl _⟩, ⟨by repeat (first | (with_reducible first | exact HB.out | apply below_alloc | apply pw_below_drewN | apply below_drew1) | exact HB.out)⟩⟩
        · rw [if_neg c11] at H
          exact absurd H (by simp)
      · rw [if_neg c10] at H
        have c10b0 : ((t270.length : Int) == 2) = false := beq_eq_false_iff_ne.mpr c10
        have c10b1 : ((t270.length : Int) != 2) = true := bne_iff_ne.mpr c10
        (first | rw [c10b0] | (simp only [i64_w, i32_w]; rw [c10b0]) | skip)
        have H' := Aside0.mk H
        clear H
        obtain ⟨Ao16, co16, eo16⟩ := Kd.R_slice HO272.out
        subst eo16
        go_wp2
        go_meet
        case rel => exact ⟨_, (true), (by first | rfl | (simp; done) | (simp [*]; done)), H', ⟨by first | omega | exact Nat.le_refl _⟩, ⟨by repeat (first | (with_reducible first | exact HB.out | apply below_alloc | apply pw_below_drewN | apply below_drew1) | exact HB.out)⟩⟩
    case rest =>
      clear HC5
      try clear c1
      try clear c2
      try clear p2
      try clear q2
      try clear hx2
      try clear qi2
      try clear c3
      try clear c4
      try clear c7
      try clear c10
      try clear c10b0
      try clear c10b1
      try clear c11
      try clear c11b0
      try clear c11b1
      try clear c12
      try clear c12b0
      try clear c12b1
      try clear c13
      try clear c13b0
      try clear c13b1
      try clear hx273_0
      try clear hx274_0
      try clear p273
      try clear p274
      try clear q273
      try clear q274
      obtain ⟨kq, x36_4, rfl, HA, HJ4, HB⟩ := hcut
      cases kq with
      | zero => exact absurd HA.out (by simp [laws_FnProposed.j0])
      | succ kj4 =>
        have H := HA.out
        clear HA
        simp only [laws_FnProposed.j0] at H
        by_cases c17 : x36_4 = true
        · subst c17
          have H1 : (some false) = some r := by rw [if_pos rfl] at H; exact H
          clear H
          have H := H1
          clear H1
          obtain rfl := Option.some.inj H
          go_wp2
          go_ret
          exact ⟨by first | rfl | (simp [errW_none, errW_some] <;> rfl) | (simp [*, errW_none, errW_some] <;> rfl), by repeat (first | (with_reducible first | exact HB.out | apply below_alloc | apply pw_below_drewN | apply below_drew1) | exact HB.out)⟩
        · replace c17 := Bool.eq_false_iff.mpr c17
          subst c17
          have H1 : ((spec_DrawPropose.f kj4 l0).bind fun bt275 => ((spec_Propose.f kj4 bt275.1 bt275.2.1 bt275.2.2.1 bt275.2.2.2).bind fun t281 => ((impl_Propose.f kj4 bt275.1 bt275.2.1 bt275.2.2.1 bt275.2.2.2).bind fun t284 => (if (t284.length : Int) = (t281.length : Int) then (if (t284.length : Int) = 0 then (some true) else (if 0 ≤ (bt275.1.length : Int) then (if ((bt275.1.length : Int) : Int).toNat ≤ 281474976710656 then (laws_FnProposed.l0 kj4 bt275.1 bt275.2.2.1 bt275.2.2.2 t284 (List.replicate ((bt275.1.length : Int) : Int).toNat false) false 0) else (none)) else (none))) else (some false))))) = some r := by rw [if_neg (show ¬ (false = true) by decide)] at H; exact H
          clear H
          have H := H1
          clear H1
          replace H := Option.bind_eq_some_iff.mp H
          obtain ⟨⟨t275, t276, t277, t278⟩, A180, H⟩ := H
          replace H : ((spec_Propose.f kj4 t275 t276 t277 t278).bind fun t281 => ((impl_Propose.f kj4 t275 t276 t277 t278).bind fun t284 => (if (t284.length : Int) = (t281.length : Int) then (if (t284.length : Int) = 0 then (some true) else (if 0 ≤ (t275.length : Int) then (if ((t275.length : Int) : Int).toNat ≤ 281474976710656 then (laws_FnProposed.l0 kj4 t275 t277 t278 t284 (List.replicate ((t275.length : Int) : Int).toNat false) false 0) else (none)) else (none))) else (some false)))) = some r := H
          have A18 := Aside0.mk A180
          clear A180
          replace H := Option.bind_eq_some_iff.mp H
          obtain ⟨t281, A190, H⟩ := H
          replace H : ((impl_Propose.f kj4 t275 t276 t277 t278).bind fun t284 => (if (t284.length : Int) = (t281.length : Int) then (if (t284.length : Int) = 0 then (some true) else (if 0 ≤ (t275.length : Int) then (if ((t275.length : Int) : Int).toNat ≤ 281474976710656 then (laws_FnProposed.l0 kj4 t275 t277 t278 t284 (List.replicate ((t275.length : Int) : Int).toNat false) false 0) else (none)) else (none))) else (some false))) = some r := H
          have A19 := Aside0.mk A190
          clear A190
          replace H := Option.bind_eq_some_iff.mp H
          obtain ⟨t284, A200, H⟩ := H
          replace H : (if (t284.length : Int) = (t281.length : Int) then (if (t284.length : Int) = 0 then (some true) else (if 0 ≤ (t275.length : Int) then (if ((t275.length : Int) : Int).toNat ≤ 281474976710656 then (laws_FnProposed.l0 kj4 t275 t277 t278 t284 (List.replicate ((t275.length : Int) : Int).toNat false) false 0) else (none)) else (none))) else (some false)) = some r := H
          have A20 := Aside0.mk A200
          clear A200
          by_cases c21 : (t284.length : Int) = (t281.length : Int)
          · rw [if_pos c21] at H
            have c21b0 : ((t284.length : Int) == (t281.length : Int)) = true := beq_iff_eq.mpr c21
            have c21b1 : ((t284.length : Int) != (t281.length : Int)) = false := bne_eq_false_iff_eq.mpr c21
            have c21b2 : (t284.length == t281.length) = true := by first | simpa using c21 | (simp at c21 ⊢; omega)
            clear c21
            by_cases c22 : (t284.length : Int) = 0
            · rw [if_pos c22] at H
              have c22b0 : ((t284.length : Int) == 0) = true := beq_iff_eq.mpr c22
              have c22b1 : ((t284.length : Int) != 0) = false := bne_eq_false_iff_eq.mpr c22
              clear c22
              obtain rfl := Option.some.inj H
              go_wp2_with (first | ((with_reducible refine gate_callee (f := 28) rfl ?_); refine goesL_ (some 39) rfl rfl Try.func28 (by kernel_rfl) rfl #[.slice A0 l0.length c0] rfl (by (try simp only [List.map_toArray, List.map_cons, List.map_nil]); first | done | rfl | (simp only [List.length_drop, List.length_take]; rfl)) ?_; (with_reducible refine (spec_DrawPropose.calls kj4 _ _ l0 t275 t276 t277 t278 _ ?side1 ?side2 A18.out).mono ?_); (case side1 => repeat (first | exact (Kd.C_below HR0.out HB.out) | (with_reducible refine Kd.C_alloc ?_ _) | (with_reducible refine Kd.C_drewN ?_ _) | (with_reducible refine Kd.C_drew ?_))); (case side2 => exact HC0.out); rintro e w23 ⟨v279, rfl, ho0, hb⟩; refine ⟨_, rfl, ?_⟩; have n0_ := Aside0.mk (Kd.R_lower ho0 (below_size (by repeat (first | (with_reducible first | exact HB.out | apply below_alloc | apply pw_below_drewN | apply below_drew1) | exact HB.out)))); have n1_ := Aside0.mk (below_step (by repeat (first | (with_reducible first | exact HB.out | apply below_alloc | apply pw_below_drewN | apply below_drew1) | exact HB.out)) hb); clear HB; have HO280 := n0_; have HB := n1_; clear n0_ n1_; (try clear hb); (try clear hb2); (try clear hk); (try clear hi); (try clear ho0); obtain ⟨Ao24, co24, eo24⟩ := Kd.R_slice HO280.out; subst eo24) | ((with_reducible refine gate_callee (f := 29) rfl ?_); refine goesL_ (some 48) rfl rfl Try.func29 (by kernel_rfl) rfl #[.slice Ao24 t275.length co24, .int .i64 t276, .int .i64 t277, .int .i64 t278] rfl (by (try simp only [List.map_toArray, List.map_cons, List.map_nil]); first | done | rfl | (simp only [List.length_drop, List.length_take]; rfl)) ?_; (with_reducible refine (spec_Propose.calls kj4 _ _ t275 t276 t277 t278 t281 _ ?side1 ?side2 A19.out).mono ?_); (case side1 => repeat (first | exact (Kd.R_reads' HO280.out).2.2 | (with_reducible refine Kd.C_alloc ?_ _) | (with_reducible refine Kd.C_drewN ?_ _) | (with_reducible refine Kd.C_drew ?_))); (case side2 => exact (Kd.R_reads' HO280.out).2.1); rintro e w25 ⟨v282, rfl, ho0, hb⟩; refine ⟨_, rfl, ?_⟩; have n0_ := Aside0.mk (Kd.R_below (by (with_reducible repeat (first | apply Kd.R_alloc | apply Kd.R_drewN | apply Kd.R_drew)); exact HO280.out) hb); have n1_ := Aside0.mk (Kd.R_lower ho0 (below_size (by repeat (first | (with_reducible first | exact HB.out | apply below_alloc | apply pw_below_drewN | apply below_drew1) | exact HB.out)))); have n2_ := Aside0.mk (below_step (by repeat (first | (with_reducible first | exact HB.out | apply below_alloc | apply pw_below_drewN | apply below_drew1) | exact HB.out)) hb); clear HO280; clear HB; have HO280 := n0_; have HO283 := n1_; have HB := n2_; clear n0_ n1_ n2_; (try clear hb); (try clear hb2); (try clear hk); (try clear hi); (try clear ho0)) | ((with_reducible refine gate_callee (f := 27) rfl ?_); refine goesL_ (some 53) rfl rfl Try.func27 (by kernel_rfl) rfl #[.slice Ao24 t275.length co24, .int .i64 t276, .int .i64 t277, .int .i64 t278] rfl (by (try simp only [List.map_toArray, List.map_cons, List.map_nil]); first | done | rfl | (simp only [List.length_drop, List.length_take]; rfl)) ?_; (with_reducible refine (impl_Propose.calls kj4 _ _ t275 t276 t277 t278 t284 _ ?side1 ?side2 A20.out).mono ?_); (case side1 => repeat (first | exact (Kd.R_reads' HO280.out).2.2 | (with_reducible refine Kd.C_alloc ?_ _) | (with_reducible refine Kd.C_drewN ?_ _) | (with_reducible refine Kd.C_drew ?_))); (case side2 => exact (Kd.R_reads' HO280.out).2.1); rintro e w26 ⟨v285, rfl, ho0, hb⟩; refine ⟨_, rfl, ?_⟩; have n0_ := Aside0.mk (Kd.R_below (by (with_reducible repeat (first | apply Kd.R_alloc | apply Kd.R_drewN | apply Kd.R_drew)); exact HO280.out) hb); have n1_ := Aside0.mk (Kd.R_elder' (by (with_reducible repeat (first | apply Kd.R_alloc | apply Kd.R_drewN | apply Kd.R_drew)); exact HO283.out) (Kd.R_base ho0) hb); have n2_ := Aside0.mk (Kd.R_lower (Kd.R_new' ho0 (Kd.R_lt (by (with_reducible repeat (first | apply Kd.R_alloc | apply Kd.R_drewN | apply Kd.R_drew)); exact HO283.out))) (below_size (by repeat (first | (with_reducible first | exact HB.out | apply below_alloc | apply pw_below_drewN | apply below_drew1) | exact HB.out)))); have n3_ := Aside0.mk (below_step (by repeat (first | (with_reducible first | exact HB.out | apply below_alloc | apply pw_below_drewN | apply below_drew1) | exact HB.out)) hb); clear HO280; clear HO283; clear HB; have HO280 := n0_; have HO283 := n1_; have HO286 := n2_; have HB := n3_; clear n0_ n1_ n2_ n3_; (try clear hb); (try clear hb2); (try clear hk); (try clear hi); (try clear ho0); obtain ⟨Ao27, co27, eo27⟩ := Kd.R_slice HO286.out; subst eo27; obtain ⟨Ao28, co28, eo28⟩ := Kd.R_slice HO283.out; subst eo28))
              go_ret
              exact ⟨by first | rfl | (simp [errW_none, errW_some] <;> rfl) | (simp [*, errW_none, errW_some] <;> rfl), by repeat (first | (with_reducible first | exact HB.out | apply below_alloc | apply pw_below_drewN | apply below_drew1) | exact HB.out)⟩
            · rw [if_neg c22] at H
              have c22b0 : ((t284.length : Int) == 0) = false := beq_eq_false_iff_ne.mpr c22
              have c22b1 : ((t284.length : Int) != 0) = true := bne_iff_ne.mpr c22
              have c22b2 : ¬ (t284 = []) := fun h_ => c22 (by rw [h_]; rfl)
              by_cases c29 : 0 ≤ (t275.length : Int)
              · rw [if_pos c29] at H
                have c29b0 := eq_true c29
                have c29b1 : decide (0 ≤ (t275.length : Int)) = true := decide_eq_true c29
                clear c29
                by_cases c30 : ((t275.length : Int) : Int).toNat ≤ 281474976710656
                · rw [if_pos c30] at H
                  have c30b0 := eq_true c30
                  have c30b1 : decide (((t275.length : Int) : Int).toNat ≤ 281474976710656) = true := decide_eq_true c30
                  clear c30
                  obtain ⟨y287, hy287⟩ : ∃ y_ : List Bool, y_ = (List.replicate ((t275.length : Int) : Int).toNat false) := ⟨_, rfl⟩
                  replace H : (laws_FnProposed.l0 kj4 t275 t277 t278 t284 y287 false 0) = some r := by first | (rw [hy287]; with_reducible exact H) | (have H2_ := (Option.bind_some _ _).symm.trans H; rw [hy287]; with_reducible exact H2_) | (have H2_ := (Option.bind_some _ _).symm.trans H; with_reducible exact H2_) | with_reducible exact H | (rw [hy287]; exact H) | exact H
                  have Ny287 := Aside0.mk hy287
                  clear hy287
                  have H' := Aside0.mk H
                  clear H
                  go_wp2_with (first | ((with_reducible refine gate_callee (f := 28) rfl ?_); refine goesL_ (some 39) rfl rfl Try.func28 (by kernel_rfl) rfl #[.slice A0 l0.length c0] rfl (by (try simp only [List.map_toArray, List.map_cons, List.map_nil]); first | done | rfl | (simp only [List.length_drop, List.length_take]; rfl)) ?_; (with_reducible refine (spec_DrawPropose.calls kj4 _ _ l0 t275 t276 t277 t278 _ ?side1 ?side2 A18.out).mono ?_); (case side1 => repeat (first | exact (Kd.C_below HR0.out HB.out) | (with_reducible refine Kd.C_alloc ?_ _) | (with_reducible refine Kd.C_drewN ?_ _) | (with_reducible refine Kd.C_drew ?_))); (case side2 => exact HC0.out); rintro e w31 ⟨v279, rfl, ho0, hb⟩; refine ⟨_, rfl, ?_⟩; have n0_ := Aside0.mk (Kd.R_lower ho0 (below_size (by repeat (first | (with_reducible first | exact HB.out | apply below_alloc | apply pw_below_drewN | apply below_drew1) | exact HB.out)))); have n1_ := Aside0.mk (below_step (by repeat (first | (with_reducible first | exact HB.out | apply below_alloc | apply pw_below_drewN | apply below_drew1) | exact HB.out)) hb); clear HB; have HO280 := n0_; have HB := n1_; clear n0_ n1_; (try clear hb); (try clear hb2); (try clear hk); (try clear hi); (try clear ho0); obtain ⟨Ao32, co32, eo32⟩ := Kd.R_slice HO280.out; subst eo32) | ((with_reducible refine gate_callee (f := 29) rfl ?_); refine goesL_ (some 48) rfl rfl Try.func29 (by kernel_rfl) rfl #[.slice Ao32 t275.length co32, .int .i64 t276, .int .i64 t277, .int .i64 t278] rfl (by (try simp only [List.map_toArray, List.map_cons, List.map_nil]); first | done | rfl | (simp only [List.length_drop, List.length_take]; rfl)) ?_; (with_reducible refine (spec_Propose.calls kj4 _ _ t275 t276 t277 t278 t281 _ ?side1 ?side2 A19.out).mono ?_); (case side1 => repeat (first | exact (Kd.R_reads' HO280.out).2.2 | (with_reducible refine Kd.C_alloc ?_ _) | (with_reducible refine Kd.C_drewN ?_ _) | (with_reducible refine Kd.C_drew ?_))); (case side2 => exact (Kd.R_reads' HO280.out).2.1); rintro e w33 ⟨v282, rfl, ho0, hb⟩; refine ⟨_, rfl, ?_⟩; have n0_ := Aside0.mk (Kd.R_below (by (with_reducible repeat (first | apply Kd.R_alloc | apply Kd.R_drewN | apply Kd.R_drew)); exact HO280.out) hb); have n1_ := Aside0.mk (Kd.R_lower ho0 (below_size (by repeat (first | (with_reducible first | exact HB.out | apply below_alloc | apply pw_below_drewN | apply below_drew1) | exact HB.out)))); have n2_ := Aside0.mk (below_step (by repeat (first | (with_reducible first | exact HB.out | apply below_alloc | apply pw_below_drewN | apply below_drew1) | exact HB.out)) hb); clear HO280; clear HB; have HO280 := n0_; have HO283 := n1_; have HB := n2_; clear n0_ n1_ n2_; (try clear hb); (try clear hb2); (try clear hk); (try clear hi); (try clear ho0)) | ((with_reducible refine gate_callee (f := 27) rfl ?_); refine goesL_ (some 53) rfl rfl Try.func27 (by kernel_rfl) rfl #[.slice Ao32 t275.length co32, .int .i64 t276, .int .i64 t277, .int .i64 t278] rfl (by (try simp only [List.map_toArray, List.map_cons, List.map_nil]); first | done | rfl | (simp only [List.length_drop, List.length_take]; rfl)) ?_; (with_reducible refine (impl_Propose.calls kj4 _ _ t275 t276 t277 t278 t284 _ ?side1 ?side2 A20.out).mono ?_); (case side1 => repeat (first | exact (Kd.R_reads' HO280.out).2.2 | (with_reducible refine Kd.C_alloc ?_ _) | (with_reducible refine Kd.C_drewN ?_ _) | (with_reducible refine Kd.C_drew ?_))); (case side2 => exact (Kd.R_reads' HO280.out).2.1); rintro e w34 ⟨v285, rfl, ho0, hb⟩; refine ⟨_, rfl, ?_⟩; have n0_ := Aside0.mk (Kd.R_below (by (with_reducible repeat (first | apply Kd.R_alloc | apply Kd.R_drewN | apply Kd.R_drew)); exact HO280.out) hb); have n1_ := Aside0.mk (Kd.R_elder' (by (with_reducible repeat (first | apply Kd.R_alloc | apply Kd.R_drewN | apply Kd.R_drew)); exact HO283.out) (Kd.R_base ho0) hb); have n2_ := Aside0.mk (Kd.R_lower (Kd.R_new' ho0 (Kd.R_lt (by (with_reducible repeat (first | apply Kd.R_alloc | apply Kd.R_drewN | apply Kd.R_drew)); exact HO283.out))) (below_size (by repeat (first | (with_reducible first | exact HB.out | apply below_alloc | apply pw_below_drewN | apply below_drew1) | exact HB.out)))); have n3_ := Aside0.mk (below_step (by repeat (first | (with_reducible first | exact HB.out | apply below_alloc | apply pw_below_drewN | apply below_drew1) | exact HB.out)) hb); clear HO280; clear HO283; clear HB; have HO280 := n0_; have HO283 := n1_; have HO286 := n2_; have HB := n3_; clear n0_ n1_ n2_ n3_; (try clear hb); (try clear hb2); (try clear hk); (try clear hi); (try clear ho0); obtain ⟨Ao35, co35, eo35⟩ := Kd.R_slice HO286.out; subst eo35; obtain ⟨Ao36, co36, eo36⟩ := Kd.R_slice HO283.out; subst eo36) | ((with_reducible refine gate_dst (N := 64) rfl ?_); (try (refine gate_guard (by rfl) ?_; dsimp only)); refine Kd.R_make Kd.bool _ 4 rfl (N := 64) rfl 58 _ _ rfl (t275.length : Int) rfl rfl Try.underlying58 (.bool false) 1 info4 rfl (by decide) (by omega) false (ok := fun _ => True) (okp := fun _ => True) rfl (fun _ hk => hk) trivial (of_decide_eq_true (by first | (with_reducible assumption) | assumption)) (Nat.le_trans (Nat.mul_le_mul_right _ (of_decide_eq_true (by first | (with_reducible assumption) | assumption) : (t275.length : Int).toNat ≤ 281474976710656)) (by omega)) (Below.refl _ _) (Nat.le_refl _) ?_; intro v288 w37 ho38 hb hg_ hnew_; clear hg_ hnew_; (first | rw [← Ny287.out] at ho38 | (simp only [Int.reduceToNat] at ho38; rw [← Ny287.out] at ho38)); have n0_ := Aside0.mk (Kd.R_below (by (with_reducible repeat (first | apply Kd.R_alloc | apply Kd.R_drewN | apply Kd.R_drew)); exact HO280.out) hb); have n1_ := Aside0.mk (Kd.R_below (by (with_reducible repeat (first | apply Kd.R_alloc | apply Kd.R_drewN | apply Kd.R_drew)); exact HO283.out) hb); have n2_ := Aside0.mk (Kd.R_below (by (with_reducible repeat (first | apply Kd.R_alloc | apply Kd.R_drewN | apply Kd.R_drew)); exact HO286.out) hb); have n3_ := Aside0.mk (Kd.R_lower ho38 (below_size (by repeat (first | (with_reducible first | exact HB.out | apply below_alloc | apply pw_below_drewN | apply below_drew1) | exact HB.out)))); have n4_ := Aside0.mk (below_step (by repeat (first | (with_reducible first | exact HB.out | apply below_alloc | apply pw_below_drewN | apply below_drew1) | exact HB.out)) hb); clear HO280; clear HO283; clear HO286; clear HB; have HO280 := n0_; have HO283 := n1_; have HO286 := n2_; have HO289 := n3_; have HB := n4_; clear n0_ n1_ n2_ n3_ n4_; clear hb ho38))
                  go_loopg [7, 11, 12] kj4 (fun kq v7 v11 v12 w' => ∃ (x7_2 : Int) (x10_2 : List Bool) (x11_2 : Bool) (x12_2 : Int), v7 = .int .i64 x7_2 ∧ v11 = .bool x11_2 ∧ v12 = .int .i64 x12_2 ∧ Aside0 (laws_FnProposed.l0 kq t275 t277 x7_2 t284 x10_2 x11_2 x12_2 = some r) ∧ Aside0 (kq ≤ kj4) ∧ Aside0 (Kd.R k54 54 w' w.heap.size (fun _ => True) (.slice Ao32 t275.length co32) t275) ∧ Aside0 (Kd.R (Kd.int .i64) 3 w' w.heap.size (fun _ => True) (.slice Ao35 t284.length co35) t284) ∧ Aside0 (Kd.R Kd.bool 4 w' w.heap.size (fun _ => True) v288 x10_2) ∧ Aside0 (Below w.heap.size w w'))
                  case atStart => exact ⟨(t278), (y287), (false), (0), (by first | rfl | (simp; done) | (simp [*]; done)), (by first | rfl | (simp; done) | (simp [*]; done)), (by first | rfl | (simp; done) | (simp [*]; done)), H', ⟨Nat.le_refl _⟩, ⟨by (with_reducible repeat (first | apply Kd.R_alloc | apply Kd.R_drewN | apply Kd.R_drew)); exact HO280.out⟩, ⟨by (with_reducible repeat (first | apply Kd.R_alloc | apply Kd.R_drewN | apply Kd.R_drew)); exact Kd.R_mono HO286.out (fun _ hk => trivial)⟩, ⟨by (with_reducible repeat (first | apply Kd.R_alloc | apply Kd.R_drewN | apply Kd.R_drew)); exact HO289.out⟩, ⟨by repeat (first | (with_reducible first | exact HB.out | apply below_alloc | apply pw_below_drewN | apply below_drew1) | exact HB.out)⟩⟩
                  case round =>
                    clear H'
                    try clear c1
                    try clear c2
                    try clear p2
                    try clear q2
                    try clear hx2
                    try clear qi2
                    try clear c3
                    try clear c4
                    try clear c7
                    try clear c10
                    try clear c10b0
                    try clear c10b1
                    try clear c11
                    try clear c11b0
                    try clear c11b1
                    try clear c12
                    try clear c12b0
                    try clear c12b1
                    try clear c13
                    try clear c13b0
                    try clear c13b1
                    try clear c17
                    try clear c21
                    try clear c21b0
                    try clear c21b1
                    try clear c21b2
                    try clear c22
                    try clear c22b0
                    try clear c22b1
                    try clear c22b2
                    try clear c26
                    try clear c27
                    try clear p27
                    try clear q27
                    try clear hx27
                    try clear qi27
                    try clear c28
                    try clear c29
                    try clear c29b0
                    try clear c29b1
                    try clear c30
                    try clear c30b0
                    try clear c30b1
                    try clear hx273_0
                    try clear hx274_0
                    try clear p2
                    try clear p273
                    try clear p274
                    try clear q2
                    try clear q273
                    try clear q274
                    obtain ⟨x7_2, x10_2, x11_2, x12_2, rfl, rfl, rfl, HA, HK2, HO_4, HO_9, HO_10, HB⟩ := hrel
                    cases gk with
                    | zero => exact absurd HA.out (by simp [laws_FnProposed.l0])
                    | succ k2 =>
                      have H := HA.out
                      clear HA
                      simp only [laws_FnProposed.l0] at H
                      by_cases c39 : x12_2 < (t284.length : Int)
                      · rw [if_pos c39] at H
                        have c39b0 : decide (x12_2 < (t284.length : Int)) = true := decide_eq_true c39
                        clear c39
                        by_cases c40 : 0 ≤ x12_2
                        · rw [if_pos c40] at H
                          have c40b0 : decide (0 ≤ x12_2) = true := decide_eq_true c40
                          clear c40
                          by_cases c41 : (rd t284 x12_2) < 0
                          · rw [if_pos c41] at H
                            have c41b0 : decide ((rd t284 x12_2) < 0) = true := decide_eq_true c41
                            clear c41
                            obtain rfl := Option.some.inj H
                            have p290 : 0 ≤ (x12_2 : Int) := of_decide_eq_true (by first | (with_reducible assumption) | assumption)
                            have q290 : x12_2 < (t284.length : Int) := of_decide_eq_true (by first | (with_reducible assumption) | assumption)
                            obtain ⟨ad290, e290, hx290_0⟩ := Kd.at_int (Kd.R_reads' HO_9.out).2.2 x12_2 p290 q290
                            cases e290
                            replace p290 := eq_true p290
                            replace q290 := eq_true q290
                            go_wp2
                            go_ret
                            exact ⟨by first | rfl | (simp [errW_none, errW_some] <;> rfl) | (simp [*, errW_none, errW_some] <;> rfl), by repeat (first | (with_reducible first | exact HB.out | apply below_alloc | apply pw_below_drewN | apply below_drew1) | exact HB.out)⟩
                          · rw [if_neg c41] at H
                            have c41b0 : decide ((rd t284 x12_2) < 0) = false := decide_eq_false c41
                            clear c41
                            by_cases c42 : (rd t284 x12_2) ≥ (t275.length : Int)
                            · rw [if_pos c42] at H
                              have c42b0 : decide ((t275.length : Int) ≤ (rd t284 x12_2)) = true := decide_eq_true c42
                              clear c42
                              obtain rfl := Option.some.inj H
                              have p290 : 0 ≤ (x12_2 : Int) := of_decide_eq_true (by first | (with_reducible assumption) | assumption)
                              have q290 : x12_2 < (t284.length : Int) := of_decide_eq_true (by first | (with_reducible assumption) | assumption)
                              obtain ⟨ad290, e290, hx290_0⟩ := Kd.at_int (Kd.R_reads' HO_9.out).2.2 x12_2 p290 q290
                              cases e290
                              replace p290 := eq_true p290
                              replace q290 := eq_true q290
                              go_wp2
                              go_ret
                              exact ⟨by first | rfl | (simp [errW_none, errW_some] <;> rfl) | (simp [*, errW_none, errW_some] <;> rfl), by repeat (first | (with_reducible first | exact HB.out | apply below_alloc | apply pw_below_drewN | apply below_drew1) | exact HB.out)⟩
                            · rw [if_neg c42] at H
                              have c42b0 : decide ((t275.length : Int) ≤ (rd t284 x12_2)) = false := decide_eq_false c42
                              clear c42
                              by_cases c43 : 0 ≤ (rd t284 x12_2)
                              · rw [if_pos c43] at H
                                have c43b0 : decide (0 ≤ (rd t284 x12_2)) = true := decide_eq_true c43
                                clear c43
                                by_cases c44 : (rd t284 x12_2) < (x10_2.length : Int)
                                · rw [if_pos c44] at H
                                  have c44b0 : decide ((rd t284 x12_2) < (x10_2.length : Int)) = true := decide_eq_true c44
                                  clear c44
                                  obtain ⟨bq45, hbq45⟩ : ∃ b_ : Bool, b_ = (rdOf false x10_2 (rd t284 x12_2)) := ⟨_, rfl⟩
                                  replace H : (if bq45 = true then (some false) else (if x11_2 = true then (if (rd t284 x12_2) < (t275.length : Int) then (if ((rd_T54 t275 (rd t284 x12_2)).f0) ≤ t277 then (some false) else (laws_FnProposed.l0 k2 t275 t277 (wrap64 (x7_2 - ((rd_T54 t275 (rd t284 x12_2)).f3))) t284 (x10_2.set ((rd t284 x12_2) : Int).toNat true) (decide (((rd_T54 t275 (rd t284 x12_2)).f0) > t277)) (wrap64 (x12_2 + 1)))) else (none)) else (if (rd t284 x12_2) < (t275.length : Int) then (laws_FnProposed.l0 k2 t275 t277 (wrap64 (x7_2 - ((rd_T54 t275 (rd t284 x12_2)).f3))) t284 (x10_2.set ((rd t284 x12_2) : Int).toNat true) (decide (((rd_T54 t275 (rd t284 x12_2)).f0) > t277)) (wrap64 (x12_2 + 1))) else (none)))) = some r := by rw [← hbq45] at H; exact H
                                  have Nbq45 := Aside0.mk hbq45
                                  clear hbq45
                                  by_cases c46 : bq45 = true
                                  · subst c46
                                    have H1 : (some false) = some r := by rw [if_pos rfl] at H; exact H
                                    clear H
                                    have H := H1
                                    clear H1
                                    obtain rfl := Option.some.inj H
                                    have p290 : 0 ≤ (x12_2 : Int) := of_decide_eq_true (by first | (with_reducible assumption) | assumption)
                                    have q290 : x12_2 < (t284.length : Int) := of_decide_eq_true (by first | (with_reducible assumption) | assumption)
                                    obtain ⟨ad290, e290, hx290_0⟩ := Kd.at_int (Kd.R_reads' HO_9.out).2.2 x12_2 p290 q290
                                    cases e290
                                    replace p290 := eq_true p290
                                    replace q290 := eq_true q290
                                    obtain ⟨Ao47, co47, eo47⟩ := Kd.R_slice HO_10.out
                                    subst eo47
                                    have p291 : 0 ≤ ((rd t284 x12_2) : Int) := of_decide_eq_true (by first | (with_reducible assumption) | assumption)
                                    have q291 : (rd t284 x12_2) < (x10_2.length : Int) := of_decide_eq_true (by first | (with_reducible assumption) | assumption)
                                    obtain ⟨ad291, e291, hx291_0⟩ := Kd.at_bool (Kd.R_reads' HO_10.out).2.2 (rd t284 x12_2) p291 q291
                                    (try rw [← Nbq45.out] at hx291_0)
                                    cases e291
                                    replace p291 := eq_true p291
                                    replace q291 := eq_true q291
                                    go_wp2
                                    go_ret
                                    exact ⟨by first | rfl | (simp [errW_none, errW_some] <;> rfl) | (simp [*, errW_none, errW_some] <;> rfl), by repeat (first | (with_reducible first | exact HB.out | apply below_alloc | apply pw_below_drewN | apply below_drew1) | exact HB.out)⟩
                                  · replace c46 := Bool.eq_false_iff.mpr c46
                                    subst c46
                                    have H1 : (if x11_2 = true then (if (rd t284 x12_2) < (t275.length : Int) then (if ((rd_T54 t275 (rd t284 x12_2)).f0) ≤ t277 then (some false) else (laws_FnProposed.l0 k2 t275 t277 (wrap64 (x7_2 - ((rd_T54 t275 (rd t284 x12_2)).f3))) t284 (x10_2.set ((rd t284 x12_2) : Int).toNat true) (decide (((rd_T54 t275 (rd t284 x12_2)).f0) > t277)) (wrap64 (x12_2 + 1)))) else (none)) else (if (rd t284 x12_2) < (t275.length : Int) then (laws_FnProposed.l0 k2 t275 t277 (wrap64 (x7_2 - ((rd_T54 t275 (rd t284 x12_2)).f3))) t284 (x10_2.set ((rd t284 x12_2) : Int).toNat true) (decide (((rd_T54 t275 (rd t284 x12_2)).f0) > t277)) (wrap64 (x12_2 + 1))) else (none))) = some r := by rw [if_neg (show ¬ (false = true) by decide)] at H; exact H
                                    clear H
                                    have H := H1
                                    clear H1
                                    by_cases c48 : x11_2 = true
                                    · subst c48
                                      have H1 : (if (rd t284 x12_2) < (t275.length : Int) then (if ((rd_T54 t275 (rd t284 x12_2)).f0) ≤ t277 then (some false) else (laws_FnProposed.l0 k2 t275 t277 (wrap64 (x7_2 - ((rd_T54 t275 (rd t284 x12_2)).f3))) t284 (x10_2.set ((rd t284 x12_2) : Int).toNat true) (decide (((rd_T54 t275 (rd t284 x12_2)).f0) > t277)) (wrap64 (x12_2 + 1)))) else (none)) = some r := by rw [if_pos rfl] at H; exact H
                                      clear H
                                      have H := H1
                                      clear H1
                                      by_cases c49 : (rd t284 x12_2) < (t275.length : Int)
                                      · rw [if_pos c49] at H
                                        have c49b0 : decide ((rd t284 x12_2) < (t275.length : Int)) = true := decide_eq_true c49
                                        clear c49
                                        by_cases c50 : ((rd_T54 t275 (rd t284 x12_2)).f0) ≤ t277
                                        · rw [if_pos c50] at H
                                          have c50b0 : decide (((rd_T54 t275 (rd t284 x12_2)).f0) ≤ t277) = true := decide_eq_true c50
                                          clear c50
                                          obtain rfl := Option.some.inj H
                                          have p290 : 0 ≤ (x12_2 : Int) := of_decide_eq_true (by first | (with_reducible assumption) | assumption)
                                          have q290 : x12_2 < (t284.length : Int) := of_decide_eq_true (by first | (with_reducible assumption) | assumption)
                                          obtain ⟨ad290, e290, hx290_0⟩ := Kd.at_int (Kd.R_reads' HO_9.out).2.2 x12_2 p290 q290
                                          cases e290
                                          replace p290 := eq_true p290
                                          replace q290 := eq_true q290
                                          obtain ⟨Ao51, co51, eo51⟩ := Kd.R_slice HO_10.out
                                          subst eo51
                                          have p291 : 0 ≤ ((rd t284 x12_2) : Int) := of_decide_eq_true (by first | (with_reducible assumption) | assumption)
                                          have q291 : (rd t284 x12_2) < (x10_2.length : Int) := of_decide_eq_true (by first | (with_reducible assumption) | assumption)
                                          obtain ⟨ad291, e291, hx291_0⟩ := Kd.at_bool (Kd.R_reads' HO_10.out).2.2 (rd t284 x12_2) p291 q291
                                          (try rw [← Nbq45.out] at hx291_0)
                                          cases e291
                                          replace p291 := eq_true p291
                                          replace q291 := eq_true q291
                                          have p292 : 0 ≤ ((rd t284 x12_2) : Int) := of_decide_eq_true (by first | (with_reducible assumption) | assumption)
                                          have q292 : (rd t284 x12_2) < (t275.length : Int) := of_decide_eq_true (by first | (with_reducible assumption) | assumption)
                                          obtain ⟨ad292, e292, hx292_0, hx292_1, hx292_2, hx292_3⟩ := at_T54 (Kd.R_reads' HO_4.out).2.2 (rd t284 x12_2) p292 q292
                                          cases e292
                                          replace p292 := eq_true p292
                                          replace q292 := eq_true q292
                                          go_wp2
                                          go_ret
                                          exact ⟨by first | rfl | (simp [errW_none, errW_some] <;> rfl) | (simp [*, errW_none, errW_some] <;> rfl), by repeat (first | (with_reducible first | exact HB.out | apply below_alloc | apply pw_below_drewN | apply below_drew1) | exact HB.out)⟩
                                        · rw [if_neg c50] at H
                                          have c50b0 : decide (((rd_T54 t275 (rd t284 x12_2)).f0) ≤ t277) = false := decide_eq_false c50
                                          clear c50
                                          obtain ⟨y293, hy293⟩ : ∃ y_ : List Bool, y_ = (x10_2.set ((rd t284 x12_2) : Int).toNat true) := ⟨_, rfl⟩
                                          replace H : (laws_FnProposed.l0 k2 t275 t277 (wrap64 (x7_2 - ((rd_T54 t275 (rd t284 x12_2)).f3))) t284 y293 (decide (((rd_T54 t275 (rd t284 x12_2)).f0) > t277)) (wrap64 (x12_2 + 1))) = some r := by first | (rw [hy293]; with_reducible exact H) | (have H2_ := (Option.bind_some _ _).symm.trans H; rw [hy293]; with_reducible exact H2_) | (have H2_ := (Option.bind_some _ _).symm.trans H; with_reducible exact H2_) | with_reducible exact H | (rw [hy293]; exact H) | exact H
                                          have Ny293 := Aside0.mk hy293
                                          clear hy293
                                          have H' := Aside0.mk H
                                          clear H
                                          have p290 : 0 ≤ (x12_2 : Int) := of_decide_eq_true (by first | (with_reducible assumption) | assumption)
                                          have q290 : x12_2 < (t284.length : Int) := of_decide_eq_true (by first | (with_reducible assumption) | assumption)
                                          obtain ⟨ad290, e290, hx290_0⟩ := Kd.at_int (Kd.R_reads' HO_9.out).2.2 x12_2 p290 q290
                                          cases e290
                                          replace p290 := eq_true p290
                                          replace q290 := eq_true q290
                                          obtain ⟨Ao53, co53, eo53⟩ := Kd.R_slice HO_10.out
                                          subst eo53
                                          have p291 : 0 ≤ ((rd t284 x12_2) : Int) := of_decide_eq_true (by first | (with_reducible assumption) | assumption)
                                          have q291 : (rd t284 x12_2) < (x10_2.length : Int) := of_decide_eq_true (by first | (with_reducible assumption) | assumption)
                                          obtain ⟨ad291, e291, hx291_0⟩ := Kd.at_bool (Kd.R_reads' HO_10.out).2.2 (rd t284 x12_2) p291 q291
                                          (try rw [← Nbq45.out] at hx291_0)
                                          cases e291
                                          replace p291 := eq_true p291
                                          replace q291 := eq_true q291
                                          have p292 : 0 ≤ ((rd t284 x12_2) : Int) := of_decide_eq_true (by first | (with_reducible assumption) | assumption)
                                          have q292 : (rd t284 x12_2) < (t275.length : Int) := of_decide_eq_true (by first | (with_reducible assumption) | assumption)
                                          obtain ⟨ad292, e292, hx292_0, hx292_1, hx292_2, hx292_3⟩ := at_T54 (Kd.R_reads' HO_4.out).2.2 (rd t284 x12_2) p292 q292
                                          cases e292
                                          replace p292 := eq_true p292
                                          replace q292 := eq_true q292
                                          have p52 : 0 ≤ ((rd t284 x12_2) : Int) := of_decide_eq_true (by first | (with_reducible assumption) | assumption)
                                          have q52 : ((rd t284 x12_2) : Int) < ((x10_2.length : Int) : Int) := of_decide_eq_true (by first | (with_reducible assumption) | assumption)
                                          obtain ⟨go52, co52, eo52, gb52, gl52, cl52, HG52⟩ := Kd.R_form HO_10.out (by omega)
                                          (first | cases eo52 | (injection eo52 with ea_ en_ ec_; (first | subst ea_ | (injection ea_ with ea_; subst ea_)); subst ec_; clear en_))
                                          have GB52 := Aside0.mk gb52
                                          have GG52 := Aside0.mk HG52
                                          clear gb52 gl52 HG52
                                          (first | simp only [add_plain] at hx291_0 | skip)
                                          obtain ⟨hx52_0, hf52_0⟩ := Kd.R_celln false HO_10.out ((rd t284 x12_2) : Int) p52 q52
                                          replace p52 := eq_true p52
                                          replace q52 := eq_true q52
                                          have HP54 := Kd.R_putg HO_10.out ((rd t284 x12_2) : Int) true
                                          go_wp2_with (first | ((with_reducible refine gate_store (t := 4) (p := 103) rfl ?_); refine store_event (t := 4) (p := 103) (v := ?vo_w55) (w1 := (wr.setCell ⟨go52, ((rd t284 x12_2) : Int).toNat, none⟩ (.bool true))) ?hg ?ho ?hn ?hr ?_; (case ho => rfl); (case hg => rfl); (case hn => rfl); (case hr => first | (go_simp; done) | (go_simp; rfl)); intro w55 hw; have hg : wr.grownBy w55 (some go52) := (by rw [hw]; exact HP54.2); have hp_ : Kd.R Kd.bool 4 w55 w.heap.size (fun _ => True) (.slice (some ⟨go52, 0, none⟩) x10_2.length co53) y293 := (by rw [hw, Ny293.out]; exact HP54.1); clear HP54; have n0_ := Aside0.mk (Kd.R_over' (v := (.slice (some ⟨go52, 0, none⟩) x10_2.length co53)) (by (with_reducible repeat (first | apply Kd.R_alloc | apply Kd.R_drewN | apply Kd.R_drew)); exact HO_4.out) (Kd.R_typed HO_10.out) (by decide) hg); have n1_ := Aside0.mk (Kd.R_over' (v := (.slice (some ⟨go52, 0, none⟩) x10_2.length co53)) (by (with_reducible repeat (first | apply Kd.R_alloc | apply Kd.R_drewN | apply Kd.R_drew)); exact HO_9.out) (Kd.R_typed HO_10.out) (by decide) hg); have n2_ := Aside0.mk (hp_); have n3_ := Aside0.mk ((by rw [hw]; exact below_set (HB.out) GB52.out : Below w.heap.size w w55)); clear HO_4; clear HO_9; clear HO_10; clear HB; have HO_4 := n0_; have HO_9 := n1_; have HO_10 := n2_; have HB := n3_; clear n0_ n1_ n2_ n3_; clear hg hw hp_; have p294 : 0 ≤ ((rd t284 x12_2) : Int) := of_decide_eq_true (by first | (with_reducible assumption) | assumption); have q294 : (rd t284 x12_2) < (t275.length : Int) := of_decide_eq_true (by first | (with_reducible assumption) | assumption); obtain ⟨ad294, e294, hx294_0, hx294_1, hx294_2, hx294_3⟩ := at_T54 (Kd.R_reads' HO_4.out).2.2 (rd t284 x12_2) p294 q294; obtain rfl : ad292 = ad294 := (by injection e294); replace p294 := eq_true p294; replace q294 := eq_true q294; have p295 : 0 ≤ ((rd t284 x12_2) : Int) := of_decide_eq_true (by first | (with_reducible assumption) | assumption); have q295 : (rd t284 x12_2) < (t275.length : Int) := of_decide_eq_true (by first | (with_reducible assumption) | assumption); obtain ⟨ad295, e295, hx295_0, hx295_1, hx295_2, hx295_3⟩ := at_T54 (Kd.R_reads' HO_4.out).2.2 (rd t284 x12_2) p295 q295; obtain rfl : ad292 = ad295 := (by injection e295); replace p295 := eq_true p295; replace q295 := eq_true q295))
                                          go_roundg k2
                                          case measure => have := HJ4.out; have := HK2.out; omega
                                          case rel => exact ⟨(wrap64 (x7_2 - ((rd_T54 t275 (rd t284 x12_2)).f3))), (y293), (decide (((rd_T54 t275 (rd t284 x12_2)).f0) > t277)), (wrap64 (x12_2 + 1)), (by first | rfl | (simp; done) | (simp [*]; done)), (by first | rfl | (simp; done) | (simp [*]; done)), (by first | rfl | (simp; done) | (simp [*]; done)), H', ⟨by have := HJ4.out; have := HK2.out; omega⟩, ⟨by (with_reducible repeat (first | apply Kd.R_alloc | apply Kd.R_drewN | apply Kd.R_drew)); exact HO_4.out⟩, ⟨by (with_reducible repeat (first | apply Kd.R_alloc | apply Kd.R_drewN | apply Kd.R_drew)); exact HO_9.out⟩, ⟨by (with_reducible repeat (first | apply Kd.R_alloc | apply Kd.R_drewN | apply Kd.R_drew)); exact HO_10.out⟩, ⟨by repeat (first | (with_reducible first | exact HB.out | apply below_alloc | apply pw_below_drewN | apply below_drew1) | exact HB.out)⟩⟩
                                      · rw [if_neg c49] at H
                                        exact absurd H (by simp)
                                    · replace c48 := Bool.eq_false_iff.mpr c48
                                      subst c48
                                      have H1 : (if (rd t284 x12_2) < (t275.length : Int) then (laws_FnProposed.l0 k2 t275 t277 (wrap64 (x7_2 - ((rd_T54 t275 (rd t284 x12_2)).f3))) t284 (x10_2.set ((rd t284 x12_2) : Int).toNat true) (decide (((rd_T54 t275 (rd t284 x12_2)).f0) > t277)) (wrap64 (x12_2 + 1))) else (none)) = some r := by rw [if_neg (show ¬ (false = true) by decide)] at H; exact H
                                      clear H
                                      have H := H1
                                      clear H1
                                      obtain ⟨y296, hy296⟩ : ∃ y_ : List Bool, y_ = (x10_2.set ((rd t284 x12_2) : Int).toNat true) := ⟨_, rfl⟩
                                      replace H : (if (rd t284 x12_2) < (t275.length : Int) then (laws_FnProposed.l0 k2 t275 t277 (wrap64 (x7_2 - ((rd_T54 t275 (rd t284 x12_2)).f3))) t284 y296 (decide (((rd_T54 t275 (rd t284 x12_2)).f0) > t277)) (wrap64 (x12_2 + 1))) else (none)) = some r := by first | (rw [hy296]; with_reducible exact H) | (have H2_ := (Option.bind_some _ _).symm.trans H; rw [hy296]; with_reducible exact H2_) | (have H2_ := (Option.bind_some _ _).symm.trans H; with_reducible exact H2_) | with_reducible exact H | (rw [hy296]; exact H) | exact H
                                      have Ny296 := Aside0.mk hy296
                                      clear hy296
                                      by_cases c57 : (rd t284 x12_2) < (t275.length : Int)
                                      · rw [if_pos c57] at H
                                        have c57b0 : decide ((rd t284 x12_2) < (t275.length : Int)) = true := decide_eq_true c57
                                        clear c57
                                        have H' := Aside0.mk H
                                        clear H
                                        have p290 : 0 ≤ (x12_2 : Int) := of_decide_eq_true (by first | (with_reducible assumption) | assumption)
                                        have q290 : x12_2 < (t284.length : Int) := of_decide_eq_true (by first | (with_reducible assumption) | assumption)
                                        obtain ⟨ad290, e290, hx290_0⟩ := Kd.at_int (Kd.R_reads' HO_9.out).2.2 x12_2 p290 q290
                                        cases e290
                                        replace p290 := eq_true p290
                                        replace q290 := eq_true q290
                                        obtain ⟨Ao58, co58, eo58⟩ := Kd.R_slice HO_10.out
                                        subst eo58
                                        have p291 : 0 ≤ ((rd t284 x12_2) : Int) := of_decide_eq_true (by first | (with_reducible assumption) | assumption)
                                        have q291 : (rd t284 x12_2) < (x10_2.length : Int) := of_decide_eq_true (by first | (with_reducible assumption) | assumption)
                                        obtain ⟨ad291, e291, hx291_0⟩ := Kd.at_bool (Kd.R_reads' HO_10.out).2.2 (rd t284 x12_2) p291 q291
                                        (try rw [← Nbq45.out] at hx291_0)
                                        cases e291
                                        replace p291 := eq_true p291
                                        replace q291 := eq_true q291
                                        have p56 : 0 ≤ ((rd t284 x12_2) : Int) := of_decide_eq_true (by first | (with_reducible assumption) | assumption)
                                        have q56 : ((rd t284 x12_2) : Int) < ((x10_2.length : Int) : Int) := of_decide_eq_true (by first | (with_reducible assumption) | assumption)
                                        obtain ⟨go56, co56, eo56, gb56, gl56, cl56, HG56⟩ := Kd.R_form HO_10.out (by omega)
                                        (first | cases eo56 | (injection eo56 with ea_ en_ ec_; (first | subst ea_ | (injection ea_ with ea_; subst ea_)); subst ec_; clear en_))
                                        have GB56 := Aside0.mk gb56
                                        have GG56 := Aside0.mk HG56
                                        clear gb56 gl56 HG56
                                        (first | simp only [add_plain] at hx291_0 | skip)
                                        obtain ⟨hx56_0, hf56_0⟩ := Kd.R_celln false HO_10.out ((rd t284 x12_2) : Int) p56 q56
                                        replace p56 := eq_true p56
                                        replace q56 := eq_true q56
                                        have HP59 := Kd.R_putg HO_10.out ((rd t284 x12_2) : Int) true
                                        go_wp2_with (first | ((with_reducible refine gate_store (t := 4) (p := 103) rfl ?_); refine store_event (t := 4) (p := 103) (v := ?vo_w60) (w1 := (wr.setCell ⟨go56, ((rd t284 x12_2) : Int).toNat, none⟩ (.bool true))) ?hg ?ho ?hn ?hr ?_; (case ho => rfl); (case hg => rfl); (case hn => rfl); (case hr => first | (go_simp; done) | (go_simp; rfl)); intro w60 hw; have hg : wr.grownBy w60 (some go56) := (by rw [hw]; exact HP59.2); have hp_ : Kd.R Kd.bool 4 w60 w.heap.size (fun _ => True) (.slice (some ⟨go56, 0, none⟩) x10_2.length co58) y296 := (by rw [hw, Ny296.out]; exact HP59.1); clear HP59; have n0_ := Aside0.mk (Kd.R_over' (v := (.slice (some ⟨go56, 0, none⟩) x10_2.length co58)) (by (with_reducible repeat (first | apply Kd.R_alloc | apply Kd.R_drewN | apply Kd.R_drew)); exact HO_4.out) (Kd.R_typed HO_10.out) (by decide) hg); have n1_ := Aside0.mk (Kd.R_over' (v := (.slice (some ⟨go56, 0, none⟩) x10_2.length co58)) (by (with_reducible repeat (first | apply Kd.R_alloc | apply Kd.R_drewN | apply Kd.R_drew)); exact HO_9.out) (Kd.R_typed HO_10.out) (by decide) hg); have n2_ := Aside0.mk (hp_); have n3_ := Aside0.mk ((by rw [hw]; exact below_set (HB.out) GB56.out : Below w.heap.size w w60)); clear HO_4; clear HO_9; clear HO_10; clear HB; have HO_4 := n0_; have HO_9 := n1_; have HO_10 := n2_; have HB := n3_; clear n0_ n1_ n2_ n3_; clear hg hw hp_; have p297 : 0 ≤ ((rd t284 x12_2) : Int) := of_decide_eq_true (by first | (with_reducible assumption) | assumption); have q297 : (rd t284 x12_2) < (t275.length : Int) := of_decide_eq_true (by first | (with_reducible assumption) | assumption); obtain ⟨ad297, e297, hx297_0, hx297_1, hx297_2, hx297_3⟩ := at_T54 (Kd.R_reads' HO_4.out).2.2 (rd t284 x12_2) p297 q297; cases e297; replace p297 := eq_true p297; replace q297 := eq_true q297; have p298 : 0 ≤ ((rd t284 x12_2) : Int) := of_decide_eq_true (by first | (with_reducible assumption) | assumption); have q298 : (rd t284 x12_2) < (t275.length : Int) := of_decide_eq_true (by first | (with_reducible assumption) | assumption); obtain ⟨ad298, e298, hx298_0, hx298_1, hx298_2, hx298_3⟩ := at_T54 (Kd.R_reads' HO_4.out).2.2 (rd t284 x12_2) p298 q298; obtain rfl : ad297 = ad298 := (by injection e298); replace p298 := eq_true p298; replace q298 := eq_true q298))
                                        go_roundg k2
                                        case measure => have := HJ4.out; have := HK2.out; omega
                                        case rel => exact ⟨(wrap64 (x7_2 - ((rd_T54 t275 (rd t284 x12_2)).f3))), (y296), (decide (((rd_T54 t275 (rd t284 x12_2)).f0) > t277)), (wrap64 (x12_2 + 1)), (by first | rfl | (simp; done) | (simp [*]; done)), (by first | rfl | (simp; done) | (simp [*]; done)), (by first | rfl | (simp; done) | (simp [*]; done)), H', ⟨by have := HJ4.out; have := HK2.out; omega⟩, ⟨by (with_reducible repeat (first | apply Kd.R_alloc | apply Kd.R_drewN | apply Kd.R_drew)); exact HO_4.out⟩, ⟨by (with_reducible repeat (first | apply Kd.R_alloc | apply Kd.R_drewN | apply Kd.R_drew)); exact HO_9.out⟩, ⟨by (with_reducible repeat (first | apply Kd.R_alloc | apply Kd.R_drewN | apply Kd.R_drew)); exact HO_10.out⟩, ⟨by repeat (first | (with_reducible first | exact HB.out | apply below_alloc | apply pw_below_drewN | apply below_drew1) | exact HB.out)⟩⟩
                                      · rw [if_neg c57] at H
                                        exact absurd H (by simp)
                                · rw [if_neg c44] at H
                                  exact absurd H (by simp)
                              · rw [if_neg c43] at H
                                exact absurd H (by simp)
                        · rw [if_neg c40] at H
                          exact absurd H (by simp)
                      · rw [if_neg c39] at H
                        have c39b0 : decide (x12_2 < (t284.length : Int)) = false := decide_eq_false c39
                        clear c39
                        have H' := Aside0.mk H
                        clear H
                        go_wp2
                        go_loopg [14] k2 (fun kq v14 w' => ∃ (x14_3 : Int), v14 = .int .i64 x14_3 ∧ Aside0 (laws_FnProposed.l1 kq t275 t277 x7_2 x10_2 x14_3 = some r) ∧ Aside0 (kq ≤ k2) ∧ Aside0 (Kd.R k54 54 w' w.heap.size (fun _ => True) (.slice Ao32 t275.length co32) t275) ∧ Aside0 (Kd.R Kd.bool 4 w' w.heap.size (fun _ => True) v288 x10_2) ∧ Aside0 (Below w.heap.size w w'))
                        case atStart => exact ⟨(0), (by first | rfl | (simp; done) | (simp [*]; done)), H', ⟨Nat.le_refl _⟩, ⟨by (with_reducible repeat (first | apply Kd.R_alloc | apply Kd.R_drewN | apply Kd.R_drew)); exact HO_4.out⟩, ⟨by (with_reducible repeat (first | apply Kd.R_alloc | apply Kd.R_drewN | apply Kd.R_drew)); exact HO_10.out⟩, ⟨by repeat (first | (with_reducible first | exact HB.out | apply below_alloc | apply pw_below_drewN | apply below_drew1) | exact HB.out)⟩⟩
                        case round =>
                          clear H'
                          try clear c1
                          try clear c2
                          try clear p2
                          try clear q2
                          try clear hx2
                          try clear qi2
                          try clear c3
                          try clear c4
                          try clear q4
                          try clear c5
                          try clear p5
                          try clear q5
                          try clear hx5
                          try clear hf5
                          try clear p6
                          try clear c7
                          try clear c10
                          try clear c10b0
                          try clear c10b1
                          try clear c11
                          try clear c11b0
                          try clear c11b1
                          try clear c12
                          try clear c12b0
                          try clear c12b1
                          try clear c13
                          try clear c13b0
                          try clear c13b1
                          try clear c17
                          try clear c21
                          try clear c21b0
                          try clear c21b1
                          try clear c21b2
                          try clear c22
                          try clear c22b0
                          try clear c22b1
                          try clear c22b2
                          try clear c26
                          try clear c27
                          try clear p27
                          try clear q27
                          try clear hx27
                          try clear qi27
                          try clear c28
                          try clear c29
                          try clear c29b0
                          try clear c29b1
                          try clear p29
                          try clear q29
                          try clear hx29
                          try clear c30
                          try clear c30b0
                          try clear c30b1
                          try clear c39
                          try clear c39b0
                          try clear c40
                          try clear c40b0
                          try clear c41
                          try clear c41b0
                          try clear c42
                          try clear c42b0
                          try clear c43
                          try clear c43b0
                          try clear c44
                          try clear c44b0
                          try clear q45
                          try clear c46
                          try clear c48
                          try clear c49
                          try clear c49b0
                          try clear c50
                          try clear c50b0
                          try clear p52
                          try clear q52
                          try clear hx52
                          try clear hf52
                          try clear p56
                          try clear q56
                          try clear hx56
                          try clear hf56
                          try clear c57
                          try clear c57b0
                          try clear hx273_0
                          try clear hx274_0
                          try clear hx290_0
                          try clear hx291_0
                          try clear hx292_0
                          try clear hx292_1
                          try clear hx292_2
                          try clear hx292_3
                          try clear hx294_0
                          try clear hx294_1
                          try clear hx294_2
                          try clear hx294_3
                          try clear hx295_0
                          try clear hx295_1
                          try clear hx295_2
                          try clear hx295_3
                          try clear hx297_0
                          try clear hx297_1
                          try clear hx297_2
                          try clear hx297_3
                          try clear hx298_0
                          try clear hx298_1
                          try clear hx298_2
                          try clear hx298_3
                          try clear hx52_0
                          try clear hx56_0
                          try clear p2
                          try clear p27
                          try clear p273
                          try clear p274
                          try clear p290
                          try clear p291
                          try clear p292
                          try clear p294
                          try clear p295
                          try clear p297
                          try clear p298
                          try clear p52
                          try clear p56
                          try clear q2
                          try clear q27
                          try clear q273
                          try clear q274
                          try clear q290
                          try clear q291
                          try clear q292
                          try clear q294
                          try clear q295
                          try clear q297
                          try clear q298
                          try clear q52
                          try clear q56
                          obtain ⟨x14_3, rfl, HA, HK3, HO_4, HO_10, HB⟩ := hrel
                          cases gk with
                          | zero => exact absurd HA.out (by simp [laws_FnProposed.l1])
                          | succ k3 =>
                            have H := HA.out
                            clear HA
                            simp only [laws_FnProposed.l1] at H
                            by_cases c61 : x14_3 < (t275.length : Int)
                            · rw [if_pos c61] at H
                              have c61b0 : decide (x14_3 < (t275.length : Int)) = true := decide_eq_true c61
                              clear c61
                              by_cases c62 : 0 ≤ x14_3
                              · rw [if_pos c62] at H
                                have c62b0 : decide (0 ≤ x14_3) = true := decide_eq_true c62
                                clear c62
                                by_cases c63 : x14_3 < (x10_2.length : Int)
                                · rw [if_pos c63] at H
                                  have c63b0 : decide (x14_3 < (x10_2.length : Int)) = true := decide_eq_true c63
                                  clear c63
                                  obtain ⟨bq64, hbq64⟩ : ∃ b_ : Bool, b_ = (rdOf false x10_2 x14_3) := ⟨_, rfl⟩
                                  replace H : (if bq64 = true then (laws_FnProposed.l1 k3 t275 t277 x7_2 x10_2 (wrap64 (x14_3 + 1))) else (if ((rd_T54 t275 x14_3).f0) ≤ t277 then (if ((rd_T54 t275 x14_3).f3) ≤ x7_2 then (some false) else (laws_FnProposed.l1 k3 t275 t277 x7_2 x10_2 (wrap64 (x14_3 + 1)))) else (laws_FnProposed.l1 k3 t275 t277 x7_2 x10_2 (wrap64 (x14_3 + 1))))) = some r := by rw [← hbq64] at H; exact H
                                  have Nbq64 := Aside0.mk hbq64
                                  clear hbq64
                                  by_cases c65 : bq64 = true
                                  · subst c65
                                    have H1 : (laws_FnProposed.l1 k3 t275 t277 x7_2 x10_2 (wrap64 (x14_3 + 1))) = some r := by rw [if_pos rfl] at H; exact H
                                    clear H
                                    have H := H1
                                    clear H1
                                    have H' := Aside0.mk H
                                    clear H
                                    obtain ⟨Ao66, co66, eo66⟩ := Kd.R_slice HO_10.out
                                    subst eo66
                                    have p299 : 0 ≤ (x14_3 : Int) := of_decide_eq_true (by first | (with_reducible assumption) | assumption)
                                    have q299 : x14_3 < (x10_2.length : Int) := of_decide_eq_true (by first | (with_reducible assumption) | assumption)
                                    obtain ⟨ad299, e299, hx299_0⟩ := Kd.at_bool (Kd.R_reads' HO_10.out).2.2 x14_3 p299 q299
                                    (try rw [← Nbq64.out] at hx299_0)
                                    cases e299
                                    replace p299 := eq_true p299
                                    replace q299 := eq_true q299
                                    go_wp2
                                    go_roundg k3
                                    case measure => have := HJ4.out; have := HK2.out; have := HK3.out; omega
                                    case rel => exact ⟨(wrap64 (x14_3 + 1)), (by first | rfl | (simp; done) | (simp [*]; done)), H', ⟨by have := HJ4.out; have := HK2.out; have := HK3.out; omega⟩, ⟨by (with_reducible repeat (first | apply Kd.R_alloc | apply Kd.R_drewN | apply Kd.R_drew)); exact HO_4.out⟩, ⟨by (with_reducible repeat (first | apply Kd.R_alloc | apply Kd.R_drewN | apply Kd.R_drew)); exact HO_10.out⟩, ⟨by repeat (first | (with_reducible first | exact HB.out | apply below_alloc | apply pw_below_drewN | apply below_drew1) | exact HB.out)⟩⟩
                                  · replace c65 := Bool.eq_false_iff.mpr c65
                                    subst c65
                                    have H1 : (if ((rd_T54 t275 x14_3).f0) ≤ t277 then (if ((rd_T54 t275 x14_3).f3) ≤ x7_2 then (some false) else (laws_FnProposed.l1 k3 t275 t277 x7_2 x10_2 (wrap64 (x14_3 + 1)))) else (laws_FnProposed.l1 k3 t275 t277 x7_2 x10_2 (wrap64 (x14_3 + 1)))) = some r := by rw [if_neg (show ¬ (false = true) by decide)] at H; exact H
                                    clear H
                                    have H := H1
                                    clear H1
                                    by_cases c67 : ((rd_T54 t275 x14_3).f0) ≤ t277
                                    · rw [if_pos c67] at H
                                      have c67b0 : decide (((rd_T54 t275 x14_3).f0) ≤ t277) = true := decide_eq_true c67
                                      clear c67
                                      by_cases c68 : ((rd_T54 t275 x14_3).f3) ≤ x7_2
                                      · rw [if_pos c68] at H
                                        have c68b0 : decide (((rd_T54 t275 x14_3).f3) ≤ x7_2) = true := decide_eq_true c68
                                        clear c68
                                        obtain rfl := Option.some.inj H
                                        obtain ⟨Ao69, co69, eo69⟩ := Kd.R_slice HO_10.out
                                        subst eo69
                                        have p299 : 0 ≤ (x14_3 : Int) := of_decide_eq_true (by first | (with_reducible assumption) | assumption)
                                        have q299 : x14_3 < (x10_2.length : Int) := of_decide_eq_true (by first | (with_reducible assumption) | assumption)
                                        obtain ⟨ad299, e299, hx299_0⟩ := Kd.at_bool (Kd.R_reads' HO_10.out).2.2 x14_3 p299 q299
                                        (try rw [← Nbq64.out] at hx299_0)
                                        cases e299
                                        replace p299 := eq_true p299
                                        replace q299 := eq_true q299
                                        have p300 : 0 ≤ (x14_3 : Int) := of_decide_eq_true (by first | (with_reducible assumption) | assumption)
                                        have q300 : x14_3 < (t275.length : Int) := of_decide_eq_true (by first | (with_reducible assumption) | assumption)
                                        obtain ⟨ad300, e300, hx300_0, hx300_1, hx300_2, hx300_3⟩ := at_T54 (Kd.R_reads' HO_4.out).2.2 x14_3 p300 q300
                                        cases e300
                                        replace p300 := eq_true p300
                                        replace q300 := eq_true q300
                                        have p301 : 0 ≤ (x14_3 : Int) := of_decide_eq_true (by first | (with_reducible assumption) | assumption)
                                        have q301 : x14_3 < (t275.length : Int) := of_decide_eq_true (by first | (with_reducible assumption) | assumption)
                                        obtain ⟨ad301, e301, hx301_0, hx301_1, hx301_2, hx301_3⟩ := at_T54 (Kd.R_reads' HO_4.out).2.2 x14_3 p301 q301
                                        obtain rfl : ad300 = ad301 := (by injection e301)
                                        replace p301 := eq_true p301
                                        replace q301 := eq_true q301
                                        go_wp2
                                        go_ret
                                        exact ⟨by first | rfl | (simp [errW_none, errW_some] <;> rfl) | (simp [*, errW_none, errW_some] <;> rfl), by repeat (first | (with_reducible first | exact HB.out | apply below_alloc | apply pw_below_drewN | apply below_drew1) | exact HB.out)⟩
                                      · rw [if_neg c68] at H
                                        have c68b0 : decide (((rd_T54 t275 x14_3).f3) ≤ x7_2) = false := decide_eq_false c68
                                        clear c68
                                        have H' := Aside0.mk H
                                        clear H
                                        obtain ⟨Ao70, co70, eo70⟩ := Kd.R_slice HO_10.out
                                        subst eo70
                                        have p299 : 0 ≤ (x14_3 : Int) := of_decide_eq_true (by first | (with_reducible assumption) | assumption)
                                        have q299 : x14_3 < (x10_2.length : Int) := of_decide_eq_true (by first | (with_reducible assumption) | assumption)
                                        obtain ⟨ad299, e299, hx299_0⟩ := Kd.at_bool (Kd.R_reads' HO_10.out).2.2 x14_3 p299 q299
                                        (try rw [← Nbq64.out] at hx299_0)
                                        cases e299
                                        replace p299 := eq_true p299
                                        replace q299 := eq_true q299
                                        have p300 : 0 ≤ (x14_3 : Int) := of_decide_eq_true (by first | (with_reducible assumption) | assumption)
                                        have q300 : x14_3 < (t275.length : Int) := of_decide_eq_true (by first | (with_reducible assumption) | assumption)
                                        obtain ⟨ad300, e300, hx300_0, hx300_1, hx300_2, hx300_3⟩ := at_T54 (Kd.R_reads' HO_4.out).2.2 x14_3 p300 q300
                                        cases e300
                                        replace p300 := eq_true p300
                                        replace q300 := eq_true q300
                                        have p301 : 0 ≤ (x14_3 : Int) := of_decide_eq_true (by first | (with_reducible assumption) | assumption)
                                        have q301 : x14_3 < (t275.length : Int) := of_decide_eq_true (by first | (with_reducible assumption) | assumption)
                                        obtain ⟨ad301, e301, hx301_0, hx301_1, hx301_2, hx301_3⟩ := at_T54 (Kd.R_reads' HO_4.out).2.2 x14_3 p301 q301
                                        obtain rfl : ad300 = ad301 := (by injection e301)
                                        replace p301 := eq_true p301
                                        replace q301 := eq_true q301
                                        go_wp2
                                        go_roundg k3
                                        case measure => have := HJ4.out; have := HK2.out; have := HK3.out; omega
                                        case rel => exact ⟨(wrap64 (x14_3 + 1)), (by first | rfl | (simp; done) | (simp [*]; done)), H', ⟨by have := HJ4.out; have := HK2.out; have := HK3.out; omega⟩, ⟨by (with_reducible repeat (first | apply Kd.R_alloc | apply Kd.R_drewN | apply Kd.R_drew)); exact HO_4.out⟩, ⟨by (with_reducible repeat (first | apply Kd.R_alloc | apply Kd.R_drewN | apply Kd.R_drew)); exact HO_10.out⟩, ⟨by repeat (first | (with_reducible first | exact HB.out | apply below_alloc | apply pw_below_drewN | apply below_drew1) | exact HB.out)⟩⟩
                                    · rw [if_neg c67] at H
                                      have c67b0 : decide (((rd_T54 t275 x14_3).f0) ≤ t277) = false := decide_eq_false c67
                                      clear c67
                                      have H' := Aside0.mk H
                                      clear H
                                      obtain ⟨Ao71, co71, eo71⟩ := Kd.R_slice HO_10.out
                                      subst eo71
                                      have p299 : 0 ≤ (x14_3 : Int) := of_decide_eq_true (by first | (with_reducible assumption) | assumption)
                                      have q299 : x14_3 < (x10_2.length : Int) := of_decide_eq_true (by first | (with_reducible assumption) | assumption)
                                      obtain ⟨ad299, e299, hx299_0⟩ := Kd.at_bool (Kd.R_reads' HO_10.out).2.2 x14_3 p299 q299
                                      (try rw [← Nbq64.out] at hx299_0)
                                      cases e299
                                      replace p299 := eq_true p299
                                      replace q299 := eq_true q299
                                      have p300 : 0 ≤ (x14_3 : Int) := of_decide_eq_true (by first | (with_reducible assumption) | assumption)
                                      have q300 : x14_3 < (t275.length : Int) := of_decide_eq_true (by first | (with_reducible assumption) | assumption)
                                      obtain ⟨ad300, e300, hx300_0, hx300_1, hx300_2, hx300_3⟩ := at_T54 (Kd.R_reads' HO_4.out).2.2 x14_3 p300 q300
                                      cases e300
                                      replace p300 := eq_true p300
                                      replace q300 := eq_true q300
                                      go_wp2
                                      go_roundg k3
                                      case measure => have := HJ4.out; have := HK2.out; have := HK3.out; omega
                                      case rel => exact ⟨(wrap64 (x14_3 + 1)), (by first | rfl | (simp; done) | (simp [*]; done)), H', ⟨by have := HJ4.out; have := HK2.out; have := HK3.out; omega⟩, ⟨by (with_reducible repeat (first | apply Kd.R_alloc | apply Kd.R_drewN | apply Kd.R_drew)); exact HO_4.out⟩, ⟨by (with_reducible repeat (first | apply Kd.R_alloc | apply Kd.R_drewN | apply Kd.R_drew)); exact HO_10.out⟩, ⟨by repeat (first | (with_reducible first | exact HB.out | apply below_alloc | apply pw_below_drewN | apply below_drew1) | exact HB.out)⟩⟩
                                · rw [if_neg c63] at H
                                  exact absurd H (by simp)
                              · rw [if_neg c62] at H
                                exact absurd H (by simp)
                            · rw [if_neg c61] at H
                              have c61b0 : decide (x14_3 < (t275.length : Int)) = false := decide_eq_false c61
                              clear c61
                              obtain rfl := Option.some.inj H
                              go_wp2
                              go_ret
                              exact ⟨by first | rfl | (simp [errW_none, errW_some] <;> rfl) | (simp [*, errW_none, errW_some] <;> rfl), by repeat (first | (with_reducible first | exact HB.out | apply below_alloc | apply pw_below_drewN | apply below_drew1) | exact HB.out)⟩
                · rw [if_neg c30] at H
                  exact absurd H (by simp)
              · rw [if_neg c29] at H
                exact absurd H (by simp)
          · rw [if_neg c21] at H
            have c21b0 : ((t284.length : Int) == (t281.length : Int)) = false := beq_eq_false_iff_ne.mpr c21
            have c21b1 : ((t284.length : Int) != (t281.length : Int)) = true := bne_iff_ne.mpr c21
            have c21b2 : (t284.length == t281.length) = false := by first | simpa using c21 | (simp at c21 ⊢; omega)
            obtain rfl := Option.some.inj H
            go_wp2_with (first | ((with_reducible refine gate_callee (f := 28) rfl ?_); refine goesL_ (some 39) rfl rfl Try.func28 (by kernel_rfl) rfl #[.slice A0 l0.length c0] rfl (by (try simp only [List.map_toArray, List.map_cons, List.map_nil]); first | done | rfl | (simp only [List.length_drop, List.length_take]; rfl)) ?_; (with_reducible refine (spec_DrawPropose.calls kj4 _ _ l0 t275 t276 t277 t278 _ ?side1 ?side2 A18.out).mono ?_); (case side1 => repeat (first | exact (Kd.C_below HR0.out HB.out) | (with_reducible refine Kd.C_alloc ?_ _) | (with_reducible refine Kd.C_drewN ?_ _) | (with_reducible refine Kd.C_drew ?_))); (case side2 => exact HC0.out); rintro e w72 ⟨v279, rfl, ho0, hb⟩; refine ⟨_, rfl, ?_⟩; have n0_ := Aside0.mk (Kd.R_lower ho0 (below_size (by repeat (first | (with_reducible first | exact HB.out | apply below_alloc | apply pw_below_drewN | apply below_drew1) | exact HB.out)))); have n1_ := Aside0.mk (below_step (by repeat (first | (with_reducible first | exact HB.out | apply below_alloc | apply pw_below_drewN | apply below_drew1) | exact HB.out)) hb); clear HB; have HO280 := n0_; have HB := n1_; clear n0_ n1_; (try clear hb); (try clear hb2); (try clear hk); (try clear hi); (try clear ho0); obtain ⟨Ao73, co73, eo73⟩ := Kd.R_slice HO280.out; subst eo73) | ((with_reducible refine gate_callee (f := 29) rfl ?_); refine goesL_ (some 48) rfl rfl Try.func29 (by kernel_rfl) rfl #[.slice Ao73 t275.length co73, .int .i64 t276, .int .i64 t277, .int .i64 t278] rfl (by (try simp only [List.map_toArray, List.map_cons, List.map_nil]); first | done | rfl | (simp only [List.length_drop, List.length_take]; rfl)) ?_; (with_reducible refine (spec_Propose.calls kj4 _ _ t275 t276 t277 t278 t281 _ ?side1 ?side2 A19.out).mono ?_); (case side1 => repeat (first | exact (Kd.R_reads' HO280.out).2.2 | (with_reducible refine Kd.C_alloc ?_ _) | (with_reducible refine Kd.C_drewN ?_ _) | (with_reducible refine Kd.C_drew ?_))); (case side2 => exact (Kd.R_reads' HO280.out).2.1); rintro e w74 ⟨v282, rfl, ho0, hb⟩; refine ⟨_, rfl, ?_⟩; have n0_ := Aside0.mk (Kd.R_below (by (with_reducible repeat (first | apply Kd.R_alloc | apply Kd.R_drewN | apply Kd.R_drew)); exact HO280.out) hb); have n1_ := Aside0.mk (Kd.R_lower ho0 (below_size (by repeat (first | (with_reducible first | exact HB.out | apply below_alloc | apply pw_below_drewN | apply below_drew1) | exact HB.out)))); have n2_ := Aside0.mk (below_step (by repeat (first | (with_reducible first | exact HB.out | apply below_alloc | apply pw_below_drewN | apply below_drew1) | exact HB.out)) hb); clear HO280; clear HB; have HO280 := n0_; have HO283 := n1_; have HB := n2_; clear n0_ n1_ n2_; (try clear hb); (try clear hb2); (try clear hk); (try clear hi); (try clear ho0)) | ((with_reducible refine gate_callee (f := 27) rfl ?_); refine goesL_ (some 53) rfl rfl Try.func27 (by kernel_rfl) rfl #[.slice Ao73 t275.length co73, .int .i64 t276, .int .i64 t277, .int .i64 t278] rfl (by (try simp only [List.map_toArray, List.map_cons, List.map_nil]); first | done | rfl | (simp only [List.length_drop, List.length_take]; rfl)) ?_; (with_reducible refine (impl_Propose.calls kj4 _ _ t275 t276 t277 t278 t284 _ ?side1 ?side2 A20.out).mono ?_); (case side1 => repeat (first | exact (Kd.R_reads' HO280.out).2.2 | (with_reducible refine Kd.C_alloc ?_ _) | (with_reducible refine Kd.C_drewN ?_ _) | (with_reducible refine Kd.C_drew ?_))); (case side2 => exact (Kd.R_reads' HO280.out).2.1); rintro e w75 ⟨v285, rfl, ho0, hb⟩; refine ⟨_, rfl, ?_⟩; have n0_ := Aside0.mk (Kd.R_below (by (with_reducible repeat (first | apply Kd.R_alloc | apply Kd.R_drewN | apply Kd.R_drew)); exact HO280.out) hb); have n1_ := Aside0.mk (Kd.R_elder' (by (with_reducible repeat (first | apply Kd.R_alloc | apply Kd.R_drewN | apply Kd.R_drew)); exact HO283.out) (Kd.R_base ho0) hb); have n2_ := Aside0.mk (Kd.R_lower (Kd.R_new' ho0 (Kd.R_lt (by (with_reducible repeat (first | apply Kd.R_alloc | apply Kd.R_drewN | apply Kd.R_drew)); exact HO283.out))) (below_size (by repeat (first | (with_reducible first | exact HB.out | apply below_alloc | apply pw_below_drewN | apply below_drew1) | exact HB.out)))); have n3_ := Aside0.mk (below_step (by repeat (first | (with_reducible first | exact HB.out | apply below_alloc | apply pw_below_drewN | apply below_drew1) | exact HB.out)) hb); clear HO280; clear HO283; clear HB; have HO280 := n0_; have HO283 := n1_; have HO286 := n2_; have HB := n3_; clear n0_ n1_ n2_ n3_; (try clear hb); (try clear hb2); (try clear hk); (try clear hi); (try clear ho0); obtain ⟨Ao76, co76, eo76⟩ := Kd.R_slice HO286.out; subst eo76; obtain ⟨Ao77, co77, eo77⟩ := Kd.R_slice HO283.out; subst eo77))
            go_ret
            exact ⟨by first | rfl | (simp [errW_none, errW_some] <;> rfl) | (simp [*, errW_none, errW_some] <;> rfl), by repeat (first | (with_reducible first | exact HB.out | apply below_alloc | apply pw_below_drewN | apply below_drew1) | exact HB.out)⟩

/-- THE ONE PURE STATEMENT of laws_FnProposed: yours. -/
def laws_FnProposed.Pure : Prop := ∀ (l0 : List Int), l0.length ≤ maxLen → l0.length * 1 ≤ 140737488351232 → (∀ x ∈ l0, (Lit.int .u8 x).wf = true) → ∃ k, laws_FnProposed.f k l0 = some true
theorem laws_FnProposed.walk (P : laws_FnProposed.Pure) (a0 : Option Addr) (len0 cap0 : Nat) (z0 : List Int) (w : World) (w0 : (a0 = none ∧ len0 = 0 ∧ cap0 = 0 ∧ z0 = []) ∨ ∃ x, a0 = some x ∧ len0 ≤ cap0 ∧ cap0 ≤ maxLen ∧ z0.length = cap0 ∧ (∀ i, i < z0.length → w.cell? (x.add i) = some (.int .u8 (z0.getD i 0))) ∧ ∀ n ∈ z0, (Lit.int .u8 n).wf = true) (y0 : len0 * 1 ≤ 140737488351232) :
    Calls Try.prog 7 #[.slice a0 len0 cap0] w fun e w' => e = .returned (.bool true) ∧ Below w.heap.size w w' := by
  obtain ⟨l0, rfl, hr0, hm0, hw0, hc0⟩ := ReadsInt.ofRowC w0
  obtain ⟨k, h⟩ := P l0 hm0 y0 hw0
  refine (laws_FnProposed.calls k _ _ l0 true w (Kd.C_of_reads (d := (0 : Int)) (h1 := fun _ => rfl) hr0) hc0 h).mono ?_
  rintro e w' ⟨rfl, hd⟩
  exact ⟨rfl, hd⟩

end Go.Proofs.Ytdnfagcnojnmiaa.PFnProposed
