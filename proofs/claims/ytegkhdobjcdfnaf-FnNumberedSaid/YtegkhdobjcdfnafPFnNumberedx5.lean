/- Lean forms and contracts of the functions that the law FnNumbered reaches, laid by a program; those of functions that it does not take are hand-made. No condition is added. -/
import Derived.Test.YtegkhdobjcdfnafPFnNumberedx0
import Derived.Test.YtegkhdobjcdfnafPFnNumberedx1
import Derived.Test.YtegkhdobjcdfnafPFnNumberedx2
import Derived.Test.YtegkhdobjcdfnafPFnNumberedx4
namespace Go.Proofs.Ytegkhdobjcdfnaf.PFnNumbered
open Go.RowKit Go.Proofs.YtegkhdobjcdfnafW.PrintWords Go.Proofs.YtegkhdobjcdfnafW.PrintLast Go.Proofs.YtegkhdobjcdfnafW.PrintMore
attribute [local go_sem] max2_int min2_int max_two min_two max_three min_three max_four min_four   -- for this text's walks alone
set_option linter.unusedVariables false
set_option linter.unusedSimpArgs false

/-! ### laws_FnNumbered: function 6 -/
def laws_FnNumbered.f (k : Nat) (l0 : List Int) : Option (Bool) := (laws_big.f l0).bind fun t195 => (if t195 = true then (some true) else ((impl_MakeNumber.f k (⟨#[88, 88]⟩ : ByteArray) (⟨#[48, 48, 48, 48]⟩ : ByteArray)).bind fun t196 => (if t196.toList = ([88, 88, 57, 48, 48, 48, 48, 48] : List UInt8) then ((spec_DrawMakeNumber.f k l0).bind fun bt197 => ((impl_MakeNumber.f k bt197.1 bt197.2).bind fun t199 => ((spec_MakeNumber.f k bt197.1 bt197.2).bind fun t200 => (if t199.toList = t200.toList then (if t199.toList = ([] : List UInt8) then (some true) else ((laws_at.f l0 0).bind fun t201 => (if (t199.size : Int) = 0 then (none) else (if 0 ≤ (Int.tmod t201 (t199.size : Int)) then (if (Int.tmod t201 (t199.size : Int)) < (t199.size : Int) then (if (bt t199 (Int.tmod t201 (t199.size : Int))) ≤ 57 then ((laws_at.f l0 1).bind fun t202 => ((impl_AccountNumber.f t199).bind fun t203 => (if t203 = true then (if (Int.tmod t201 (t199.size : Int)) ≤ (t199.size : Int) then ((some (([48 + ((((((bt t199 (Int.tmod t201 (t199.size : Int))) - 48) % 256) + ((wrap64 (1 + (Int.tmod t202 9))) % 256)) % 256) % 10)] : List Int) : List Int)).bind fun y204 => (if (t199.extract 0 ((Int.tmod t201 (t199.size : Int)) : Int).toNat).size + (strOfNums y204).size ≤ 9223372036854775807 then (if 0 ≤ (wrap64 ((Int.tmod t201 (t199.size : Int)) + 1)) then (if (wrap64 ((Int.tmod t201 (t199.size : Int)) + 1)) ≤ (t199.size : Int) then (if ((t199.extract 0 ((Int.tmod t201 (t199.size : Int)) : Int).toNat) ++ (strOfNums y204)).size + (t199.extract ((wrap64 ((Int.tmod t201 (t199.size : Int)) + 1)) : Int).toNat t199.size).size ≤ 9223372036854775807 then ((impl_AccountNumber.f (((t199.extract 0 ((Int.tmod t201 (t199.size : Int)) : Int).toNat) ++ (strOfNums y204)) ++ (t199.extract ((wrap64 ((Int.tmod t201 (t199.size : Int)) + 1)) : Int).toNat t199.size))).bind fun t207 => (some (!t207))) else (none)) else (none)) else (none)) else (none))) else (none)) else (some false)))) else ((laws_at.f l0 1).bind fun t208 => ((impl_AccountNumber.f t199).bind fun t209 => (if t209 = true then (if (Int.tmod t201 (t199.size : Int)) ≤ (t199.size : Int) then ((some (([65 + ((((((bt t199 (Int.tmod t201 (t199.size : Int))) - 65) % 256) + ((wrap64 (1 + (Int.tmod t208 25))) % 256)) % 256) % 26)] : List Int) : List Int)).bind fun y210 => (if (t199.extract 0 ((Int.tmod t201 (t199.size : Int)) : Int).toNat).size + (strOfNums y210).size ≤ 9223372036854775807 then (if 0 ≤ (wrap64 ((Int.tmod t201 (t199.size : Int)) + 1)) then (if (wrap64 ((Int.tmod t201 (t199.size : Int)) + 1)) ≤ (t199.size : Int) then (if ((t199.extract 0 ((Int.tmod t201 (t199.size : Int)) : Int).toNat) ++ (strOfNums y210)).size + (t199.extract ((wrap64 ((Int.tmod t201 (t199.size : Int)) + 1)) : Int).toNat t199.size).size ≤ 9223372036854775807 then ((impl_AccountNumber.f (((t199.extract 0 ((Int.tmod t201 (t199.size : Int)) : Int).toNat) ++ (strOfNums y210)) ++ (t199.extract ((wrap64 ((Int.tmod t201 (t199.size : Int)) + 1)) : Int).toNat t199.size))).bind fun t213 => (some (!t213))) else (none)) else (none)) else (none)) else (none))) else (none)) else (some false))))) else (none)) else (none))))) else (some false))))) else (some false))))
theorem laws_FnNumbered.mono : ∀ a0 k, LeO (laws_FnNumbered.f k a0) (laws_FnNumbered.f (k + 1) a0) := by
  intro a0 k
  unfold laws_FnNumbered.f
  repeat' first
      | (with_reducible exact impl_MakeNumber.mono _ _ _)
      | (with_reducible exact spec_DrawMakeNumber.mono _ _)
      | (with_reducible exact spec_MakeNumber.mono _ _ _)
      | (with_reducible exact LeO.refl _)
      | (with_reducible exact LeO.none _)
      | (with_reducible refine LeO.ite ?_ ?_)
      | (with_reducible refine LeO.bind ?_ (fun _ => ?_))
      | exact impl_MakeNumber.mono _ _ _
      | exact spec_DrawMakeNumber.mono _ _
      | exact spec_MakeNumber.mono _ _ _
      | exact LeO.none _
      | refine LeO.ite ?_ ?_
      | refine LeO.bind ?_ (fun _ => ?_)
def laws_FnNumbered.T16 : Bool × List (List Nat × List Nat) := (true, [([], []), ([0], [0]), ([1, 1], [1]), ([2], [2]), ([2], [2]), ([3, 4, 2], [2, 3, 4]), ([2], [2]), ([6, 2], [2, 6]), ([7, 2], [2, 7]), ([5, 8, 2], [2, 5, 8]), ([2], [2]), ([2], [2]), ([11, 2], [2, 11]), ([10, 12, 2], [2, 10, 12]), ([9, 13, 2], [2, 9, 13]), ([14, 2, 2], [2, 14]), ([15, 2], [2, 15]), ([2, 16], [2, 16]), ([17, 15, 0, 1, 2, 3, 4, 5, 6, 7, 8, 9, 10, 11, 12, 13, 14, 15, 16, 17], [17])])
def laws_FnNumbered.B16 : List Nat := [0, 1, 3, 7, 7, 31, 7, 71, 199, 511, 7, 7, 2055, 7175, 16383, 32767, 65535, 131071, 262143]
theorem laws_FnNumbered.tab16 : rtab .any (opsOf Try.f6 16) = laws_FnNumbered.T16 := by kernel_rfl
theorem laws_FnNumbered.bits16 : waitsOk laws_FnNumbered.T16.2 laws_FnNumbered.B16 = true := by kernel_rfl
set_option maxHeartbeats 8000000 in
set_option maxRecDepth 100000 in
theorem laws_FnNumbered.calls (k : Nat) (A0 : Option Addr) (c0 : Nat) (l0 : List Int) (r : Bool) (w : World) (hr0 : Kd.C (Kd.int .u8) w A0 l0.length l0) (hc0 : l0.length ≤ c0) (h : laws_FnNumbered.f k l0 = some r) :
    Calls Try.prog 6 #[.slice A0 l0.length c0] w fun e w' => e = .returned (.bool r) ∧ Below w.heap.size w w' := by
  have HR0 := Aside0.mk hr0
  have HC0 := Aside0.mk hc0
  clear hr0 hc0
  have HB := Aside0.mk (Below.refl w.heap.size w)
  have H : ((laws_big.f l0).bind fun t195 => (if t195 = true then (some true) else ((impl_MakeNumber.f k (⟨#[88, 88]⟩ : ByteArray) (⟨#[48, 48, 48, 48]⟩ : ByteArray)).bind fun t196 => (if t196.toList = ([88, 88, 57, 48, 48, 48, 48, 48] : List UInt8) then ((spec_DrawMakeNumber.f k l0).bind fun bt197 => ((impl_MakeNumber.f k bt197.1 bt197.2).bind fun t199 => ((spec_MakeNumber.f k bt197.1 bt197.2).bind fun t200 => (if t199.toList = t200.toList then (if t199.toList = ([] : List UInt8) then (some true) else ((laws_at.f l0 0).bind fun t201 => (if (t199.size : Int) = 0 then (none) else (if 0 ≤ (Int.tmod t201 (t199.size : Int)) then (if (Int.tmod t201 (t199.size : Int)) < (t199.size : Int) then (if (bt t199 (Int.tmod t201 (t199.size : Int))) ≤ 57 then ((laws_at.f l0 1).bind fun t202 => ((impl_AccountNumber.f t199).bind fun t203 => (if t203 = true then (if (Int.tmod t201 (t199.size : Int)) ≤ (t199.size : Int) then ((some (([48 + ((((((bt t199 (Int.tmod t201 (t199.size : Int))) - 48) % 256) + ((wrap64 (1 + (Int.tmod t202 9))) % 256)) % 256) % 10)] : List Int) : List Int)).bind fun y204 => (if (t199.extract 0 ((Int.tmod t201 (t199.size : Int)) : Int).toNat).size + (strOfNums y204).size ≤ 9223372036854775807 then (if 0 ≤ (wrap64 ((Int.tmod t201 (t199.size : Int)) + 1)) then (if (wrap64 ((Int.tmod t201 (t199.size : Int)) + 1)) ≤ (t199.size : Int) then (if ((t199.extract 0 ((Int.tmod t201 (t199.size : Int)) : Int).toNat) ++ (strOfNums y204)).size + (t199.extract ((wrap64 ((Int.tmod t201 (t199.size : Int)) + 1)) : Int).toNat t199.size).size ≤ 9223372036854775807 then ((impl_AccountNumber.f (((t199.extract 0 ((Int.tmod t201 (t199.size : Int)) : Int).toNat) ++ (strOfNums y204)) ++ (t199.extract ((wrap64 ((Int.tmod t201 (t199.size : Int)) + 1)) : Int).toNat t199.size))).bind fun t207 => (some (!t207))) else (none)) else (none)) else (none)) else (none))) else (none)) else (some false)))) else ((laws_at.f l0 1).bind fun t208 => ((impl_AccountNumber.f t199).bind fun t209 => (if t209 = true then (if (Int.tmod t201 (t199.size : Int)) ≤ (t199.size : Int) then ((some (([65 + ((((((bt t199 (Int.tmod t201 (t199.size : Int))) - 65) % 256) + ((wrap64 (1 + (Int.tmod t208 25))) % 256)) % 256) % 26)] : List Int) : List Int)).bind fun y210 => (if (t199.extract 0 ((Int.tmod t201 (t199.size : Int)) : Int).toNat).size + (strOfNums y210).size ≤ 9223372036854775807 then (if 0 ≤ (wrap64 ((Int.tmod t201 (t199.size : Int)) + 1)) then (if (wrap64 ((Int.tmod t201 (t199.size : Int)) + 1)) ≤ (t199.size : Int) then (if ((t199.extract 0 ((Int.tmod t201 (t199.size : Int)) : Int).toNat) ++ (strOfNums y210)).size + (t199.extract ((wrap64 ((Int.tmod t201 (t199.size : Int)) + 1)) : Int).toNat t199.size).size ≤ 9223372036854775807 then ((impl_AccountNumber.f (((t199.extract 0 ((Int.tmod t201 (t199.size : Int)) : Int).toNat) ++ (strOfNums y210)) ++ (t199.extract ((wrap64 ((Int.tmod t201 (t199.size : Int)) + 1)) : Int).toNat t199.size))).bind fun t213 => (some (!t213))) else (none)) else (none)) else (none)) else (none))) else (none)) else (some false))))) else (none)) else (none))))) else (some false))))) else (some false))))) = some r := h
  clear h
  replace H := Option.bind_eq_some_iff.mp H
  obtain ⟨t195, A20, H⟩ := H
  replace H : (if t195 = true then (some true) else ((impl_MakeNumber.f k (⟨#[88, 88]⟩ : ByteArray) (⟨#[48, 48, 48, 48]⟩ : ByteArray)).bind fun t196 => (if t196.toList = ([88, 88, 57, 48, 48, 48, 48, 48] : List UInt8) then ((spec_DrawMakeNumber.f k l0).bind fun bt197 => ((impl_MakeNumber.f k bt197.1 bt197.2).bind fun t199 => ((spec_MakeNumber.f k bt197.1 bt197.2).bind fun t200 => (if t199.toList = t200.toList then (if t199.toList = ([] : List UInt8) then (some true) else ((laws_at.f l0 0).bind fun t201 => (if (t199.size : Int) = 0 then (none) else (if 0 ≤ (Int.tmod t201 (t199.size : Int)) then (if (Int.tmod t201 (t199.size : Int)) < (t199.size : Int) then (if (bt t199 (Int.tmod t201 (t199.size : Int))) ≤ 57 then ((laws_at.f l0 1).bind fun t202 => ((impl_AccountNumber.f t199).bind fun t203 => (if t203 = true then (if (Int.tmod t201 (t199.size : Int)) ≤ (t199.size : Int) then ((some (([48 + ((((((bt t199 (Int.tmod t201 (t199.size : Int))) - 48) % 256) + ((wrap64 (1 + (Int.tmod t202 9))) % 256)) % 256) % 10)] : List Int) : List Int)).bind fun y204 => (if (t199.extract 0 ((Int.tmod t201 (t199.size : Int)) : Int).toNat).size + (strOfNums y204).size ≤ 9223372036854775807 then (if 0 ≤ (wrap64 ((Int.tmod t201 (t199.size : Int)) + 1)) then (if (wrap64 ((Int.tmod t201 (t199.size : Int)) + 1)) ≤ (t199.size : Int) then (if ((t199.extract 0 ((Int.tmod t201 (t199.size : Int)) : Int).toNat) ++ (strOfNums y204)).size + (t199.extract ((wrap64 ((Int.tmod t201 (t199.size : Int)) + 1)) : Int).toNat t199.size).size ≤ 9223372036854775807 then ((impl_AccountNumber.f (((t199.extract 0 ((Int.tmod t201 (t199.size : Int)) : Int).toNat) ++ (strOfNums y204)) ++ (t199.extract ((wrap64 ((Int.tmod t201 (t199.size : Int)) + 1)) : Int).toNat t199.size))).bind fun t207 => (some (!t207))) else (none)) else (none)) else (none)) else (none))) else (none)) else (some false)))) else ((laws_at.f l0 1).bind fun t208 => ((impl_AccountNumber.f t199).bind fun t209 => (if t209 = true then (if (Int.tmod t201 (t199.size : Int)) ≤ (t199.size : Int) then ((some (([65 + ((((((bt t199 (Int.tmod t201 (t199.size : Int))) - 65) % 256) + ((wrap64 (1 + (Int.tmod t208 25))) % 256)) % 256) % 26)] : List Int) : List Int)).bind fun y210 => (if (t199.extract 0 ((Int.tmod t201 (t199.size : Int)) : Int).toNat).size + (strOfNums y210).size ≤ 9223372036854775807 then (if 0 ≤ (wrap64 ((Int.tmod t201 (t199.size : Int)) + 1)) then (if (wrap64 ((Int.tmod t201 (t199.size : Int)) + 1)) ≤ (t199.size : Int) then (if ((t199.extract 0 ((Int.tmod t201 (t199.size : Int)) : Int).toNat) ++ (strOfNums y210)).size + (t199.extract ((wrap64 ((Int.tmod t201 (t199.size : Int)) + 1)) : Int).toNat t199.size).size ≤ 9223372036854775807 then ((impl_AccountNumber.f (((t199.extract 0 ((Int.tmod t201 (t199.size : Int)) : Int).toNat) ++ (strOfNums y210)) ++ (t199.extract ((wrap64 ((Int.tmod t201 (t199.size : Int)) + 1)) : Int).toNat t199.size))).bind fun t213 => (some (!t213))) else (none)) else (none)) else (none)) else (none))) else (none)) else (some false))))) else (none)) else (none))))) else (some false))))) else (some false)))) = some r := H
  have A2 := Aside0.mk A20
  clear A20
  by_cases c3 : t195 = true
  · subst c3
    have H1 : (some true) = some r := by rw [if_pos rfl] at H; exact H
    clear H
    have H := H1
    clear H1
    obtain rfl := Option.some.inj H
    go_enter Try.func6, Try.ntmps6
    go_wp2_with (first | ((with_reducible refine gate_callee (f := 9) rfl ?_); refine goesL_ (some 9) rfl rfl Try.func9 (by kernel_rfl) rfl #[.slice A0 l0.length c0] rfl (by (try simp only [List.map_toArray, List.map_cons, List.map_nil]); first | done | rfl | (simp only [List.length_drop, List.length_take]; rfl)) ?_; (with_reducible refine (laws_big.calls _ _ l0 true _ ?side1 ?side2 A2.out).mono ?_); (case side1 => repeat (first | exact HR0.out | (with_reducible refine Kd.C_alloc ?_ _) | (with_reducible refine Kd.C_drewN ?_ _) | (with_reducible refine Kd.C_drew ?_))); (case side2 => exact HC0.out); rintro e w' ⟨rfl, ⟨nd, rfl⟩⟩; refine ⟨_, rfl, ?_⟩))
    go_ret
    exact ⟨by first | rfl | (simp [errW_none, errW_some] <;> rfl) | (simp [*, errW_none, errW_some] <;> rfl), by repeat (first | (with_reducible first | exact HB.out | apply below_alloc | apply pw_below_drewN | apply below_drew1) | exact HB.out)⟩
  · replace c3 := Bool.eq_false_iff.mpr c3
    subst c3
    have H1 : ((impl_MakeNumber.f k (⟨#[88, 88]⟩ : ByteArray) (⟨#[48, 48, 48, 48]⟩ : ByteArray)).bind fun t196 => (if t196.toList = ([88, 88, 57, 48, 48, 48, 48, 48] : List UInt8) then ((spec_DrawMakeNumber.f k l0).bind fun bt197 => ((impl_MakeNumber.f k bt197.1 bt197.2).bind fun t199 => ((spec_MakeNumber.f k bt197.1 bt197.2).bind fun t200 => (if t199.toList = t200.toList then (if t199.toList = ([] : List UInt8) then (some true) else ((laws_at.f l0 0).bind fun t201 => (if (t199.size : Int) = 0 then (none) else (if 0 ≤ (Int.tmod t201 (t199.size : Int)) then (if (Int.tmod t201 (t199.size : Int)) < (t199.size : Int) then (if (bt t199 (Int.tmod t201 (t199.size : Int))) ≤ 57 then ((laws_at.f l0 1).bind fun t202 => ((impl_AccountNumber.f t199).bind fun t203 => (if t203 = true then (if (Int.tmod t201 (t199.size : Int)) ≤ (t199.size : Int) then ((some (([48 + ((((((bt t199 (Int.tmod t201 (t199.size : Int))) - 48) % 256) + ((wrap64 (1 + (Int.tmod t202 9))) % 256)) % 256) % 10)] : List Int) : List Int)).bind fun y204 => (if (t199.extract 0 ((Int.tmod t201 (t199.size : Int)) : Int).toNat).size + (strOfNums y204).size ≤ 9223372036854775807 then (if 0 ≤ (wrap64 ((Int.tmod t201 (t199.size : Int)) + 1)) then (if (wrap64 ((Int.tmod t201 (t199.size : Int)) + 1)) ≤ (t199.size : Int) then (if ((t199.extract 0 ((Int.tmod t201 (t199.size : Int)) : Int).toNat) ++ (strOfNums y204)).size + (t199.extract ((wrap64 ((Int.tmod t201 (t199.size : Int)) + 1)) : Int).toNat t199.size).size ≤ 9223372036854775807 then ((impl_AccountNumber.f (((t199.extract 0 ((Int.tmod t201 (t199.size : Int)) : Int).toNat) ++ (strOfNums y204)) ++ (t199.extract ((wrap64 ((Int.tmod t201 (t199.size : Int)) + 1)) : Int).toNat t199.size))).bind fun t207 => (some (!t207))) else (none)) else (none)) else (none)) else (none))) else (none)) else (some false)))) else ((laws_at.f l0 1).bind fun t208 => ((impl_AccountNumber.f t199).bind fun t209 => (if t209 = true then (if (Int.tmod t201 (t199.size : Int)) ≤ (t199.size : Int) then ((some (([65 + ((((((bt t199 (Int.tmod t201 (t199.size : Int))) - 65) % 256) + ((wrap64 (1 + (Int.tmod t208 25))) % 256)) % 256) % 26)] : List Int) : List Int)).bind fun y210 => (if (t199.extract 0 ((Int.tmod t201 (t199.size : Int)) : Int).toNat).size + (strOfNums y210).size ≤ 9223372036854775807 then (if 0 ≤ (wrap64 ((Int.tmod t201 (t199.size : Int)) + 1)) then (if (wrap64 ((Int.tmod t201 (t199.size : Int)) + 1)) ≤ (t199.size : Int) then (if ((t199.extract 0 ((Int.tmod t201 (t199.size : Int)) : Int).toNat) ++ (strOfNums y210)).size + (t199.extract ((wrap64 ((Int.tmod t201 (t199.size : Int)) + 1)) : Int).toNat t199.size).size ≤ 9223372036854775807 then ((impl_AccountNumber.f (((t199.extract 0 ((Int.tmod t201 (t199.size : Int)) : Int).toNat) ++ (strOfNums y210)) ++ (t199.extract ((wrap64 ((Int.tmod t201 (t199.size : Int)) + 1)) : Int).toNat t199.size))).bind fun t213 => (some (!t213))) else (none)) else (none)) else (none)) else (none))) else (none)) else (some false))))) else (none)) else (none))))) else (some false))))) else (some false))) = some r := by rw [if_neg (show ¬ (false = true) by decide)] at H; exact H
    clear H
    have H := H1
    clear H1
    replace H := Option.bind_eq_some_iff.mp H
    obtain ⟨t196, A40, H⟩ := H
    replace H : (if t196.toList = ([88, 88, 57, 48, 48, 48, 48, 48] : List UInt8) then ((spec_DrawMakeNumber.f k l0).bind fun bt197 => ((impl_MakeNumber.f k bt197.1 bt197.2).bind fun t199 => ((spec_MakeNumber.f k bt197.1 bt197.2).bind fun t200 => (if t199.toList = t200.toList then (if t199.toList = ([] : List UInt8) then (some true) else ((laws_at.f l0 0).bind fun t201 => (if (t199.size : Int) = 0 then (none) else (if 0 ≤ (Int.tmod t201 (t199.size : Int)) then (if (Int.tmod t201 (t199.size : Int)) < (t199.size : Int) then (if (bt t199 (Int.tmod t201 (t199.size : Int))) ≤ 57 then ((laws_at.f l0 1).bind fun t202 => ((impl_AccountNumber.f t199).bind fun t203 => (if t203 = true then (if (Int.tmod t201 (t199.size : Int)) ≤ (t199.size : Int) then ((some (([48 + ((((((bt t199 (Int.tmod t201 (t199.size : Int))) - 48) % 256) + ((wrap64 (1 + (Int.tmod t202 9))) % 256)) % 256) % 10)] : List Int) : List Int)).bind fun y204 => (if (t199.extract 0 ((Int.tmod t201 (t199.size : Int)) : Int).toNat).size + (strOfNums y204).size ≤ 9223372036854775807 then (if 0 ≤ (wrap64 ((Int.tmod t201 (t199.size : Int)) + 1)) then (if (wrap64 ((Int.tmod t201 (t199.size : Int)) + 1)) ≤ (t199.size : Int) then (if ((t199.extract 0 ((Int.tmod t201 (t199.size : Int)) : Int).toNat) ++ (strOfNums y204)).size + (t199.extract ((wrap64 ((Int.tmod t201 (t199.size : Int)) + 1)) : Int).toNat t199.size).size ≤ 9223372036854775807 then ((impl_AccountNumber.f (((t199.extract 0 ((Int.tmod t201 (t199.size : Int)) : Int).toNat) ++ (strOfNums y204)) ++ (t199.extract ((wrap64 ((Int.tmod t201 (t199.size : Int)) + 1)) : Int).toNat t199.size))).bind fun t207 => (some (!t207))) else (none)) else (none)) else (none)) else (none))) else (none)) else (some false)))) else ((laws_at.f l0 1).bind fun t208 => ((impl_AccountNumber.f t199).bind fun t209 => (if t209 = true then (if (Int.tmod t201 (t199.size : Int)) ≤ (t199.size : Int) then ((some (([65 + ((((((bt t199 (Int.tmod t201 (t199.size : Int))) - 65) % 256) + ((wrap64 (1 + (Int.tmod t208 25))) % 256)) % 256) % 26)] : List Int) : List Int)).bind fun y210 => (if (t199.extract 0 ((Int.tmod t201 (t199.size : Int)) : Int).toNat).size + (strOfNums y210).size ≤ 9223372036854775807 then (if 0 ≤ (wrap64 ((Int.tmod t201 (t199.size : Int)) + 1)) then (if (wrap64 ((Int.tmod t201 (t199.size : Int)) + 1)) ≤ (t199.size : Int) then (if ((t199.extract 0 ((Int.tmod t201 (t199.size : Int)) : Int).toNat) ++ (strOfNums y210)).size + (t199.extract ((wrap64 ((Int.tmod t201 (t199.size : Int)) + 1)) : Int).toNat t199.size).size ≤ 9223372036854775807 then ((impl_AccountNumber.f (((t199.extract 0 ((Int.tmod t201 (t199.size : Int)) : Int).toNat) ++ (strOfNums y210)) ++ (t199.extract ((wrap64 ((Int.tmod t201 (t199.size : Int)) + 1)) : Int).toNat t199.size))).bind fun t213 => (some (!t213))) else (none)) else (none)) else (none)) else (none))) else (none)) else (some false))))) else (none)) else (none))))) else (some false))))) else (some false)) = some r := H
    have A4 := Aside0.mk A40
    clear A40
    by_cases c5 : t196.toList = ([88, 88, 57, 48, 48, 48, 48, 48] : List UInt8)
    · rw [if_pos c5] at H
      have c5b0 : (t196.toList == ([88, 88, 57, 48, 48, 48, 48, 48] : List UInt8)) = true := beq_iff_eq.mpr c5
      have c5b1 : (t196.toList != ([88, 88, 57, 48, 48, 48, 48, 48] : List UInt8)) = false := bne_eq_false_iff_eq.mpr c5
      clear c5
      replace H := Option.bind_eq_some_iff.mp H
      obtain ⟨⟨t197, t198⟩, A60, H⟩ := H
      replace H : ((impl_MakeNumber.f k t197 t198).bind fun t199 => ((spec_MakeNumber.f k t197 t198).bind fun t200 => (if t199.toList = t200.toList then (if t199.toList = ([] : List UInt8) then (some true) else ((laws_at.f l0 0).bind fun t201 => (if (t199.size : Int) = 0 then (none) else (if 0 ≤ (Int.tmod t201 (t199.size : Int)) then (if (Int.tmod t201 (t199.size : Int)) < (t199.size : Int) then (if (bt t199 (Int.tmod t201 (t199.size : Int))) ≤ 57 then ((laws_at.f l0 1).bind fun t202 => ((impl_AccountNumber.f t199).bind fun t203 => (if t203 = true then (if (Int.tmod t201 (t199.size : Int)) ≤ (t199.size : Int) then ((some (([48 + ((((((bt t199 (Int.tmod t201 (t199.size : Int))) - 48) % 256) + ((wrap64 (1 + (Int.tmod t202 9))) % 256)) % 256) % 10)] : List Int) : List Int)).bind fun y204 => (if (t199.extract 0 ((Int.tmod t201 (t199.size : Int)) : Int).toNat).size + (strOfNums y204).size ≤ 9223372036854775807 then (if 0 ≤ (wrap64 ((Int.tmod t201 (t199.size : Int)) + 1)) then (if (wrap64 ((Int.tmod t201 (t199.size : Int)) + 1)) ≤ (t199.size : Int) then (if ((t199.extract 0 ((Int.tmod t201 (t199.size : Int)) : Int).toNat) ++ (strOfNums y204)).size + (t199.extract ((wrap64 ((Int.tmod t201 (t199.size : Int)) + 1)) : Int).toNat t199.size).size ≤ 9223372036854775807 then ((impl_AccountNumber.f (((t199.extract 0 ((Int.tmod t201 (t199.size : Int)) : Int).toNat) ++ (strOfNums y204)) ++ (t199.extract ((wrap64 ((Int.tmod t201 (t199.size : Int)) + 1)) : Int).toNat t199.size))).bind fun t207 => (some (!t207))) else (none)) else (none)) else (none)) else (none))) else (none)) else (some false)))) else ((laws_at.f l0 1).bind fun t208 => ((impl_AccountNumber.f t199).bind fun t209 => (if t209 = true then (if (Int.tmod t201 (t199.size : Int)) ≤ (t199.size : Int) then ((some (([65 + ((((((bt t199 (Int.tmod t201 (t199.size : Int))) - 65) % 256) + ((wrap64 (1 + (Int.tmod t208 25))) % 256)) % 256) % 26)] : List Int) : List Int)).bind fun y210 => (if (t199.extract 0 ((Int.tmod t201 (t199.size : Int)) : Int).toNat).size + (strOfNums y210).size ≤ 9223372036854775807 then (if 0 ≤ (wrap64 ((Int.tmod t201 (t199.size : Int)) + 1)) then (if (wrap64 ((Int.tmod t201 (t199.size : Int)) + 1)) ≤ (t199.size : Int) then (if ((t199.extract 0 ((Int.tmod t201 (t199.size : Int)) : Int).toNat) ++ (strOfNums y210)).size + (t199.extract ((wrap64 ((Int.tmod t201 (t199.size : Int)) + 1)) : Int).toNat t199.size).size ≤ 9223372036854775807 then ((impl_AccountNumber.f (((t199.extract 0 ((Int.tmod t201 (t199.size : Int)) : Int).toNat) ++ (strOfNums y210)) ++ (t199.extract ((wrap64 ((Int.tmod t201 (t199.size : Int)) + 1)) : Int).toNat t199.size))).bind fun t213 => (some (!t213))) else (none)) else (none)) else (none)) else (none))) else (none)) else (some false))))) else (none)) else (none))))) else (some false)))) = some r := H
      have A6 := Aside0.mk A60
      clear A60
      replace H := Option.bind_eq_some_iff.mp H
      obtain ⟨t199, A70, H⟩ := H
      replace H : ((spec_MakeNumber.f k t197 t198).bind fun t200 => (if t199.toList = t200.toList then (if t199.toList = ([] : List UInt8) then (some true) else ((laws_at.f l0 0).bind fun t201 => (if (t199.size : Int) = 0 then (none) else (if 0 ≤ (Int.tmod t201 (t199.size : Int)) then (if (Int.tmod t201 (t199.size : Int)) < (t199.size : Int) then (if (bt t199 (Int.tmod t201 (t199.size : Int))) ≤ 57 then ((laws_at.f l0 1).bind fun t202 => ((impl_AccountNumber.f t199).bind fun t203 => (if t203 = true then (if (Int.tmod t201 (t199.size : Int)) ≤ (t199.size : Int) then ((some (([48 + ((((((bt t199 (Int.tmod t201 (t199.size : Int))) - 48) % 256) + ((wrap64 (1 + (Int.tmod t202 9))) % 256)) % 256) % 10)] : List Int) : List Int)).bind fun y204 => (if (t199.extract 0 ((Int.tmod t201 (t199.size : Int)) : Int).toNat).size + (strOfNums y204).size ≤ 9223372036854775807 then (if 0 ≤ (wrap64 ((Int.tmod t201 (t199.size : Int)) + 1)) then (if (wrap64 ((Int.tmod t201 (t199.size : Int)) + 1)) ≤ (t199.size : Int) then (if ((t199.extract 0 ((Int.tmod t201 (t199.size : Int)) : Int).toNat) ++ (strOfNums y204)).size + (t199.extract ((wrap64 ((Int.tmod t201 (t199.size : Int)) + 1)) : Int).toNat t199.size).size ≤ 9223372036854775807 then ((impl_AccountNumber.f (((t199.extract 0 ((Int.tmod t201 (t199.size : Int)) : Int).toNat) ++ (strOfNums y204)) ++ (t199.extract ((wrap64 ((Int.tmod t201 (t199.size : Int)) + 1)) : Int).toNat t199.size))).bind fun t207 => (some (!t207))) else (none)) else (none)) else (none)) else (none))) else (none)) else (some false)))) else ((laws_at.f l0 1).bind fun t208 => ((impl_AccountNumber.f t199).bind fun t209 => (if t209 = true then (if (Int.tmod t201 (t199.size : Int)) ≤ (t199.size : Int) then ((some (([65 + ((((((bt t199 (Int.tmod t201 (t199.size : Int))) - 65) % 256) + ((wrap64 (1 + (Int.tmod t208 25))) % 256)) % 256) % 26)] : List Int) : List Int)).bind fun y210 => (if (t199.extract 0 ((Int.tmod t201 (t199.size : Int)) : Int).toNat).size + (strOfNums y210).size ≤ 9223372036854775807 then (if 0 ≤ (wrap64 ((Int.tmod t201 (t199.size : Int)) + 1)) then (if (wrap64 ((Int.tmod t201 (t199.size : Int)) + 1)) ≤ (t199.size : Int) then (if ((t199.extract 0 ((Int.tmod t201 (t199.size : Int)) : Int).toNat) ++ (strOfNums y210)).size + (t199.extract ((wrap64 ((Int.tmod t201 (t199.size : Int)) + 1)) : Int).toNat t199.size).size ≤ 9223372036854775807 then ((impl_AccountNumber.f (((t199.extract 0 ((Int.tmod t201 (t199.size : Int)) : Int).toNat) ++ (strOfNums y210)) ++ (t199.extract ((wrap64 ((Int.tmod t201 (t199.size : Int)) + 1)) : Int).toNat t199.size))).bind fun t213 => (some (!t213))) else (none)) else (none)) else (none)) else (none))) else (none)) else (some false))))) else (none)) else (none))))) else (some false))) = some r := H
      have A7 := Aside0.mk A70
      clear A70
      replace H := Option.bind_eq_some_iff.mp H
      obtain ⟨t200, A80, H⟩ := H
      replace H : (if t199.toList = t200.toList then (if t199.toList = ([] : List UInt8) then (some true) else ((laws_at.f l0 0).bind fun t201 => (if (t199.size : Int) = 0 then (none) else (if 0 ≤ (Int.tmod t201 (t199.size : Int)) then (if (Int.tmod t201 (t199.size : Int)) < (t199.size : Int) then (if (bt t199 (Int.tmod t201 (t199.size : Int))) ≤ 57 then ((laws_at.f l0 1).bind fun t202 => ((impl_AccountNumber.f t199).bind fun t203 => (if t203 = true then (if (Int.tmod t201 (t199.size : Int)) ≤ (t199.size : Int) then ((some (([48 + ((((((bt t199 (Int.tmod t201 (t199.size : Int))) - 48) % 256) + ((wrap64 (1 + (Int.tmod t202 9))) % 256)) % 256) % 10)] : List Int) : List Int)).bind fun y204 => (if (t199.extract 0 ((Int.tmod t201 (t199.size : Int)) : Int).toNat).size + (strOfNums y204).size ≤ 9223372036854775807 then (if 0 ≤ (wrap64 ((Int.tmod t201 (t199.size : Int)) + 1)) then (if (wrap64 ((Int.tmod t201 (t199.size : Int)) + 1)) ≤ (t199.size : Int) then (if ((t199.extract 0 ((Int.tmod t201 (t199.size : Int)) : Int).toNat) ++ (strOfNums y204)).size + (t199.extract ((wrap64 ((Int.tmod t201 (t199.size : Int)) + 1)) : Int).toNat t199.size).size ≤ 9223372036854775807 then ((impl_AccountNumber.f (((t199.extract 0 ((Int.tmod t201 (t199.size : Int)) : Int).toNat) ++ (strOfNums y204)) ++ (t199.extract ((wrap64 ((Int.tmod t201 (t199.size : Int)) + 1)) : Int).toNat t199.size))).bind fun t207 => (some (!t207))) else (none)) else (none)) else (none)) else (none))) else (none)) else (some false)))) else ((laws_at.f l0 1).bind fun t208 => ((impl_AccountNumber.f t199).bind fun t209 => (if t209 = true then (if (Int.tmod t201 (t199.size : Int)) ≤ (t199.size : Int) then ((some (([65 + ((((((bt t199 (Int.tmod t201 (t199.size : Int))) - 65) % 256) + ((wrap64 (1 + (Int.tmod t208 25))) % 256)) % 256) % 26)] : List Int) : List Int)).bind fun y210 => (if (t199.extract 0 ((Int.tmod t201 (t199.size : Int)) : Int).toNat).size + (strOfNums y210).size ≤ 9223372036854775807 then (if 0 ≤ (wrap64 ((Int.tmod t201 (t199.size : Int)) + 1)) then (if (wrap64 ((Int.tmod t201 (t199.size : Int)) + 1)) ≤ (t199.size : Int) then (if ((t199.extract 0 ((Int.tmod t201 (t199.size : Int)) : Int).toNat) ++ (strOfNums y210)).size + (t199.extract ((wrap64 ((Int.tmod t201 (t199.size : Int)) + 1)) : Int).toNat t199.size).size ≤ 9223372036854775807 then ((impl_AccountNumber.f (((t199.extract 0 ((Int.tmod t201 (t199.size : Int)) : Int).toNat) ++ (strOfNums y210)) ++ (t199.extract ((wrap64 ((Int.tmod t201 (t199.size : Int)) + 1)) : Int).toNat t199.size))).bind fun t213 => (some (!t213))) else (none)) else (none)) else (none)) else (none))) else (none)) else (some false))))) else (none)) else (none))))) else (some false)) = some r := H
      have A8 := Aside0.mk A80
      clear A80
      by_cases c9 : t199.toList = t200.toList
      · rw [if_pos c9] at H
        have c9b0 : (t199.toList == t200.toList) = true := beq_iff_eq.mpr c9
        have c9b1 : (t199.toList != t200.toList) = false := bne_eq_false_iff_eq.mpr c9
        clear c9
        by_cases c10 : t199.toList = ([] : List UInt8)
        · rw [if_pos c10] at H
          have c10b0 : (t199.toList == ([] : List UInt8)) = true := beq_iff_eq.mpr c10
          have c10b1 : (t199.toList != ([] : List UInt8)) = false := bne_eq_false_iff_eq.mpr c10
          clear c10
          obtain rfl := Option.some.inj H
          go_enter Try.func6, Try.ntmps6
          go_wp2_with (first | ((with_reducible refine gate_callee (f := 9) rfl ?_); refine goesL_ (some 9) rfl rfl Try.func9 (by kernel_rfl) rfl #[.slice A0 l0.length c0] rfl (by (try simp only [List.map_toArray, List.map_cons, List.map_nil]); first | done | rfl | (simp only [List.length_drop, List.length_take]; rfl)) ?_; (with_reducible refine (laws_big.calls _ _ l0 false _ ?side1 ?side2 A2.out).mono ?_); (case side1 => repeat (first | exact HR0.out | (with_reducible refine Kd.C_alloc ?_ _) | (with_reducible refine Kd.C_drewN ?_ _) | (with_reducible refine Kd.C_drew ?_))); (case side2 => exact HC0.out); rintro e w' ⟨rfl, ⟨nd, rfl⟩⟩; refine ⟨_, rfl, ?_⟩) | ((with_reducible refine gate_callee (f := 18) rfl ?_); refine goesL_ (some 10) rfl rfl Try.func18 (by kernel_rfl) rfl #[.string (⟨#[88, 88]⟩ : ByteArray), .string (⟨#[48, 48, 48, 48]⟩ : ByteArray)] rfl (by (try simp only [List.map_toArray, List.map_cons, List.map_nil]); first | done | rfl | (simp only [List.length_drop, List.length_take]; rfl)) ?_; (with_reducible refine (impl_MakeNumber.calls k (⟨#[88, 88]⟩ : ByteArray) (⟨#[48, 48, 48, 48]⟩ : ByteArray) t196 _ A4.out).mono ?_); rintro e w11 ⟨rfl, hb⟩; refine ⟨_, rfl, ?_⟩; have n0_ := Aside0.mk (below_step (by repeat (first | (with_reducible first | exact HB.out | apply below_alloc | apply pw_below_drewN | apply below_drew1) | exact HB.out)) hb); clear HB; have HB := n0_; clear n0_; (try clear hb); (try clear hb2); (try clear hk); (try clear hi)) | ((with_reducible refine gate_callee (f := 19) rfl ?_); refine goesL_ (some 14) rfl rfl Try.func19 (by kernel_rfl) rfl #[.slice A0 l0.length c0] rfl (by (try simp only [List.map_toArray, List.map_cons, List.map_nil]); first | done | rfl | (simp only [List.length_drop, List.length_take]; rfl)) ?_; (with_reducible refine (spec_DrawMakeNumber.calls k _ _ l0 t197 t198 _ ?side1 ?side2 A6.out).mono ?_); (case side1 => repeat (first | exact (Kd.C_below HR0.out HB.out) | (with_reducible refine Kd.C_alloc ?_ _) | (with_reducible refine Kd.C_drewN ?_ _) | (with_reducible refine Kd.C_drew ?_))); (case side2 => exact HC0.out); rintro e w12 ⟨rfl, hb⟩; refine ⟨_, rfl, ?_⟩; have n0_ := Aside0.mk (below_step (by repeat (first | (with_reducible first | exact HB.out | apply below_alloc | apply pw_below_drewN | apply below_drew1) | exact HB.out)) hb); clear HB; have HB := n0_; clear n0_; (try clear hb); (try clear hb2); (try clear hk); (try clear hi)) | ((with_reducible refine gate_callee (f := 18) rfl ?_); refine goesL_ (some 19) rfl rfl Try.func18 (by kernel_rfl) rfl #[.string t197, .string t198] rfl (by (try simp only [List.map_toArray, List.map_cons, List.map_nil]); first | done | rfl | (simp only [List.length_drop, List.length_take]; rfl)) ?_; (with_reducible refine (impl_MakeNumber.calls k t197 t198 t199 _ A7.out).mono ?_); rintro e w13 ⟨rfl, hb⟩; refine ⟨_, rfl, ?_⟩; have n0_ := Aside0.mk (below_step (by repeat (first | (with_reducible first | exact HB.out | apply below_alloc | apply pw_below_drewN | apply below_drew1) | exact HB.out)) hb); clear HB; have HB := n0_; clear n0_; (try clear hb); (try clear hb2); (try clear hk); (try clear hi)) | ((with_reducible refine gate_callee (f := 20) rfl ?_); refine goesL_ (some 23) rfl rfl Try.func20 (by kernel_rfl) rfl #[.string t197, .string t198] rfl (by (try simp only [List.map_toArray, List.map_cons, List.map_nil]); first | done | rfl | (simp only [List.length_drop, List.length_take]; rfl)) ?_; (with_reducible refine (spec_MakeNumber.calls k t197 t198 t200 _ A8.out).mono ?_); rintro e w14 ⟨rfl, hb⟩; refine ⟨_, rfl, ?_⟩; have n0_ := Aside0.mk (below_step (by repeat (first | (with_reducible first | exact HB.out | apply below_alloc | apply pw_below_drewN | apply below_drew1) | exact HB.out)) hb); clear HB; have HB := n0_; clear n0_; (try clear hb); (try clear hb2); (try clear hk); (try clear hi)))
          go_ret
          exact ⟨by first | rfl | (simp [errW_none, errW_some] <;> rfl) | (simp [*, errW_none, errW_some] <;> rfl), by repeat (first | (with_reducible first | exact HB.out | apply below_alloc | apply pw_below_drewN | apply below_drew1) | exact HB.out)⟩
        · rw [if_neg c10] at H
          have c10b0 : (t199.toList == ([] : List UInt8)) = false := beq_eq_false_iff_ne.mpr c10
          have c10b1 : (t199.toList != ([] : List UInt8)) = true := bne_iff_ne.mpr c10
          replace H := Option.bind_eq_some_iff.mp H
          obtain ⟨t201, A150, H⟩ := H
          replace H : (if (t199.size : Int) = 0 then (none) else (if 0 ≤ (Int.tmod t201 (t199.size : Int)) then (if (Int.tmod t201 (t199.size : Int)) < (t199.size : Int) then (if (bt t199 (Int.tmod t201 (t199.size : Int))) ≤ 57 then ((laws_at.f l0 1).bind fun t202 => ((impl_AccountNumber.f t199).bind fun t203 => (if t203 = true then (if (Int.tmod t201 (t199.size : Int)) ≤ (t199.size : Int) then ((some (([48 + ((((((bt t199 (Int.tmod t201 (t199.size : Int))) - 48) % 256) + ((wrap64 (1 + (Int.tmod t202 9))) % 256)) % 256) % 10)] : List Int) : List Int)).bind fun y204 => (if (t199.extract 0 ((Int.tmod t201 (t199.size : Int)) : Int).toNat).size + (strOfNums y204).size ≤ 9223372036854775807 then (if 0 ≤ (wrap64 ((Int.tmod t201 (t199.size : Int)) + 1)) then (if (wrap64 ((Int.tmod t201 (t199.size : Int)) + 1)) ≤ (t199.size : Int) then (if ((t199.extract 0 ((Int.tmod t201 (t199.size : Int)) : Int).toNat) ++ (strOfNums y204)).size + (t199.extract ((wrap64 ((Int.tmod t201 (t199.size : Int)) + 1)) : Int).toNat t199.size).size ≤ 9223372036854775807 then ((impl_AccountNumber.f (((t199.extract 0 ((Int.tmod t201 (t199.size : Int)) : Int).toNat) ++ (strOfNums y204)) ++ (t199.extract ((wrap64 ((Int.tmod t201 (t199.size : Int)) + 1)) : Int).toNat t199.size))).bind fun t207 => (some (!t207))) else (none)) else (none)) else (none)) else (none))) else (none)) else (some false)))) else ((laws_at.f l0 1).bind fun t208 => ((impl_AccountNumber.f t199).bind fun t209 => (if t209 = true then (if (Int.tmod t201 (t199.size : Int)) ≤ (t199.size : Int) then ((some (([65 + ((((((bt t199 (Int.tmod t201 (t199.size : Int))) - 65) % 256) + ((wrap64 (1 + (Int.tmod t208 25))) % 256)) % 256) % 26)] : List Int) : List Int)).bind fun y210 => (if (t199.extract 0 ((Int.tmod t201 (t199.size : Int)) : Int).toNat).size + (strOfNums y210).size ≤ 9223372036854775807 then (if 0 ≤ (wrap64 ((Int.tmod t201 (t199.size : Int)) + 1)) then (if (wrap64 ((Int.tmod t201 (t199.size : Int)) + 1)) ≤ (t199.size : Int) then (if ((t199.extract 0 ((Int.tmod t201 (t199.size : Int)) : Int).toNat) ++ (strOfNums y210)).size + (t199.extract ((wrap64 ((Int.tmod t201 (t199.size : Int)) + 1)) : Int).toNat t199.size).size ≤ 9223372036854775807 then ((impl_AccountNumber.f (((t199.extract 0 ((Int.tmod t201 (t199.size : Int)) : Int).toNat) ++ (strOfNums y210)) ++ (t199.extract ((wrap64 ((Int.tmod t201 (t199.size : Int)) + 1)) : Int).toNat t199.size))).bind fun t213 => (some (!t213))) else (none)) else (none)) else (none)) else (none))) else (none)) else (some false))))) else (none)) else (none))) = some r := H
          have A15 := Aside0.mk A150
          clear A150
          by_cases c16 : (t199.size : Int) = 0
          · rw [if_pos c16] at H
            exact absurd H (by simp)
          · rw [if_neg c16] at H
            have c16b0 : ((t199.size : Int) == 0) = false := beq_eq_false_iff_ne.mpr c16
            have c16b1 : ((t199.size : Int) != 0) = true := bne_iff_ne.mpr c16
            obtain ⟨ji17, hji17⟩ : ∃ j_ : Int, (Int.tmod t201 (t199.size : Int)) = j_ := ⟨_, rfl⟩
            replace H : (if 0 ≤ (ji17) then (if (ji17) < (t199.size : Int) then (if (bt t199 (ji17)) ≤ 57 then ((laws_at.f l0 1).bind fun t202 => ((impl_AccountNumber.f t199).bind fun t203 => (if t203 = true then (if (ji17) ≤ (t199.size : Int) then ((some (([48 + ((((((bt t199 (ji17)) - 48) % 256) + ((wrap64 (1 + (Int.tmod t202 9))) % 256)) % 256) % 10)] : List Int) : List Int)).bind fun y204 => (if (t199.extract 0 ((ji17) : Int).toNat).size + (strOfNums y204).size ≤ 9223372036854775807 then (if 0 ≤ (wrap64 ((ji17) + 1)) then (if (wrap64 ((ji17) + 1)) ≤ (t199.size : Int) then (if ((t199.extract 0 ((ji17) : Int).toNat) ++ (strOfNums y204)).size + (t199.extract ((wrap64 ((ji17) + 1)) : Int).toNat t199.size).size ≤ 9223372036854775807 then ((impl_AccountNumber.f (((t199.extract 0 ((ji17) : Int).toNat) ++ (strOfNums y204)) ++ (t199.extract ((wrap64 ((ji17) + 1)) : Int).toNat t199.size))).bind fun t207 => (some (!t207))) else (none)) else (none)) else (none)) else (none))) else (none)) else (some false)))) else ((laws_at.f l0 1).bind fun t208 => ((impl_AccountNumber.f t199).bind fun t209 => (if t209 = true then (if (ji17) ≤ (t199.size : Int) then ((some (([65 + ((((((bt t199 (ji17)) - 65) % 256) + ((wrap64 (1 + (Int.tmod t208 25))) % 256)) % 256) % 26)] : List Int) : List Int)).bind fun y210 => (if (t199.extract 0 ((ji17) : Int).toNat).size + (strOfNums y210).size ≤ 9223372036854775807 then (if 0 ≤ (wrap64 ((ji17) + 1)) then (if (wrap64 ((ji17) + 1)) ≤ (t199.size : Int) then (if ((t199.extract 0 ((ji17) : Int).toNat) ++ (strOfNums y210)).size + (t199.extract ((wrap64 ((ji17) + 1)) : Int).toNat t199.size).size ≤ 9223372036854775807 then ((impl_AccountNumber.f (((t199.extract 0 ((ji17) : Int).toNat) ++ (strOfNums y210)) ++ (t199.extract ((wrap64 ((ji17) + 1)) : Int).toNat t199.size))).bind fun t213 => (some (!t213))) else (none)) else (none)) else (none)) else (none))) else (none)) else (some false))))) else (none)) else (none)) = some r := by first | (rw [hji17] at H; exact H) | (simp only [hji17] at H ⊢; exact H)
            (try rw [hji17] at A2)
            (try rw [hji17] at A4)
            (try rw [hji17] at A6)
            (try rw [hji17] at A7)
            (try rw [hji17] at A8)
            (try rw [hji17] at A15)
            by_cases c18 : 0 ≤ (ji17)
            · rw [if_pos c18] at H
              have c18b0 : decide (0 ≤ (ji17)) = true := decide_eq_true c18
              clear c18
              by_cases c19 : (ji17) < (t199.size : Int)
              · rw [if_pos c19] at H
                have c19b0 : decide ((ji17) < (t199.size : Int)) = true := decide_eq_true c19
                clear c19
                by_cases c21 : (bt t199 (ji17)) ≤ 57
                · rw [if_pos c21] at H
                  have c21b0 : decide ((bt t199 (ji17)) ≤ 57) = true := decide_eq_true c21
                  clear c21
                  replace H := Option.bind_eq_some_iff.mp H
                  obtain ⟨t202, A220, H⟩ := H
                  replace H : ((impl_AccountNumber.f t199).bind fun t203 => (if t203 = true then (if (ji17) ≤ (t199.size : Int) then ((some (([48 + ((((((bt t199 (ji17)) - 48) % 256) + ((wrap64 (1 + (Int.tmod t202 9))) % 256)) % 256) % 10)] : List Int) : List Int)).bind fun y204 => (if (t199.extract 0 ((ji17) : Int).toNat).size + (strOfNums y204).size ≤ 9223372036854775807 then (if 0 ≤ (wrap64 ((ji17) + 1)) then (if (wrap64 ((ji17) + 1)) ≤ (t199.size : Int) then (if ((t199.extract 0 ((ji17) : Int).toNat) ++ (strOfNums y204)).size + (t199.extract ((wrap64 ((ji17) + 1)) : Int).toNat t199.size).size ≤ 9223372036854775807 then ((impl_AccountNumber.f (((t199.extract 0 ((ji17) : Int).toNat) ++ (strOfNums y204)) ++ (t199.extract ((wrap64 ((ji17) + 1)) : Int).toNat t199.size))).bind fun t207 => (some (!t207))) else (none)) else (none)) else (none)) else (none))) else (none)) else (some false))) = some r := H
                  have A22 := Aside0.mk A220
                  clear A220
                  replace H := Option.bind_eq_some_iff.mp H
                  obtain ⟨t203, A230, H⟩ := H
                  replace H : (if t203 = true then (if (ji17) ≤ (t199.size : Int) then ((some (([48 + ((((((bt t199 (ji17)) - 48) % 256) + ((wrap64 (1 + (Int.tmod t202 9))) % 256)) % 256) % 10)] : List Int) : List Int)).bind fun y204 => (if (t199.extract 0 ((ji17) : Int).toNat).size + (strOfNums y204).size ≤ 9223372036854775807 then (if 0 ≤ (wrap64 ((ji17) + 1)) then (if (wrap64 ((ji17) + 1)) ≤ (t199.size : Int) then (if ((t199.extract 0 ((ji17) : Int).toNat) ++ (strOfNums y204)).size + (t199.extract ((wrap64 ((ji17) + 1)) : Int).toNat t199.size).size ≤ 9223372036854775807 then ((impl_AccountNumber.f (((t199.extract 0 ((ji17) : Int).toNat) ++ (strOfNums y204)) ++ (t199.extract ((wrap64 ((ji17) + 1)) : Int).toNat t199.size))).bind fun t207 => (some (!t207))) else (none)) else (none)) else (none)) else (none))) else (none)) else (some false)) = some r := H
                  have A23 := Aside0.mk A230
                  clear A230
                  by_cases c24 : t203 = true
                  · subst c24
                    have H1 : (if (ji17) ≤ (t199.size : Int) then ((some (([48 + ((((((bt t199 (ji17)) - 48) % 256) + ((wrap64 (1 + (Int.tmod t202 9))) % 256)) % 256) % 10)] : List Int) : List Int)).bind fun y204 => (if (t199.extract 0 ((ji17) : Int).toNat).size + (strOfNums y204).size ≤ 9223372036854775807 then (if 0 ≤ (wrap64 ((ji17) + 1)) then (if (wrap64 ((ji17) + 1)) ≤ (t199.size : Int) then (if ((t199.extract 0 ((ji17) : Int).toNat) ++ (strOfNums y204)).size + (t199.extract ((wrap64 ((ji17) + 1)) : Int).toNat t199.size).size ≤ 9223372036854775807 then ((impl_AccountNumber.f (((t199.extract 0 ((ji17) : Int).toNat) ++ (strOfNums y204)) ++ (t199.extract ((wrap64 ((ji17) + 1)) : Int).toNat t199.size))).bind fun t207 => (some (!t207))) else (none)) else (none)) else (none)) else (none))) else (none)) = some r := by rw [if_pos rfl] at H; exact H
                    clear H
                    have H := H1
                    clear H1
                    have c25b0 := eq_true (of_decide_eq_true (by first | (with_reducible assumption) | assumption) : 0 ≤ (ji17))
                    by_cases c26 : (ji17) ≤ (t199.size : Int)
                    · rw [if_pos c26] at H
                      have c26b0 := eq_true c26
                      have c26b1 : decide ((ji17) ≤ (t199.size : Int)) = true := decide_eq_true c26
                      clear c26
                      obtain ⟨y204, hy204⟩ : ∃ y_ : List Int, y_ = (([48 + ((((((bt t199 (ji17)) - 48) % 256) + ((wrap64 (1 + (Int.tmod t202 9))) % 256)) % 256) % 10)] : List Int)) := ⟨_, rfl⟩
                      replace H : (if (t199.extract 0 ((ji17) : Int).toNat).size + (strOfNums y204).size ≤ 9223372036854775807 then (if 0 ≤ (wrap64 ((ji17) + 1)) then (if (wrap64 ((ji17) + 1)) ≤ (t199.size : Int) then (if ((t199.extract 0 ((ji17) : Int).toNat) ++ (strOfNums y204)).size + (t199.extract ((wrap64 ((ji17) + 1)) : Int).toNat t199.size).size ≤ 9223372036854775807 then ((impl_AccountNumber.f (((t199.extract 0 ((ji17) : Int).toNat) ++ (strOfNums y204)) ++ (t199.extract ((wrap64 ((ji17) + 1)) : Int).toNat t199.size))).bind fun t207 => (some (!t207))) else (none)) else (none)) else (none)) else (none)) = some r := by first | (rw [hy204]; with_reducible exact H) | (have H2_ := (Option.bind_some _ _).symm.trans H; rw [hy204]; with_reducible exact H2_) | (have H2_ := (Option.bind_some _ _).symm.trans H; with_reducible exact H2_) | with_reducible exact H | (rw [hy204]; exact H) | exact H
                      have Ny204 := Aside0.mk hy204
                      clear hy204
                      by_cases c27 : (t199.extract 0 ((ji17) : Int).toNat).size + (strOfNums y204).size ≤ 9223372036854775807
                      · rw [if_pos c27] at H
                        have c27b0 := eq_true c27
                        have c27b1 : decide ((t199.extract 0 ((ji17) : Int).toNat).size + (strOfNums y204).size ≤ 9223372036854775807) = true := decide_eq_true c27
                        try have c27b2 : (9223372036854775807 < (t199.extract 0 ((ji17) : Int).toNat).size + (strOfNums y204).size) = False := eq_false (Nat.not_lt.2 c27)
                        try (have c27b5 := c27b2; simp only [ByteArray.size_append, ByteArray.size_extract, Nat.min_self, Nat.sub_zero] at c27b5)
                        try (have c27b3 := c27b2; simp only [ByteArray.size_extract, Nat.min_self, Nat.sub_zero] at c27b3)
                        try (have c27b6 := c27b5; have hz_ : ji17 ≤ (t199.size : Int) := of_decide_eq_true (by first | (with_reducible assumption) | assumption); rw [Nat.min_eq_left (show ji17.toNat ≤ t199.size by omega)] at c27b6; clear hz_)
                        obtain ⟨ji28, hji28⟩ : ∃ j_ : Int, (wrap64 ((ji17) + 1)) = j_ := ⟨_, rfl⟩
                        replace H : (if 0 ≤ (ji28) then (if (ji28) ≤ (t199.size : Int) then (if ((t199.extract 0 ((ji17) : Int).toNat) ++ (strOfNums y204)).size + (t199.extract ((ji28) : Int).toNat t199.size).size ≤ 9223372036854775807 then ((impl_AccountNumber.f (((t199.extract 0 ((ji17) : Int).toNat) ++ (strOfNums y204)) ++ (t199.extract ((ji28) : Int).toNat t199.size))).bind fun t207 => (some (!t207))) else (none)) else (none)) else (none)) = some r := by first | (rw [hji28] at H; exact H) | (simp only [hji28] at H ⊢; exact H)
                        (try rw [hji28] at A2)
                        (try rw [hji28] at A4)
                        (try rw [hji28] at A6)
                        (try rw [hji28] at A7)
                        (try rw [hji28] at A8)
                        (try rw [hji28] at A15)
                        (try rw [hji28] at A22)
                        (try rw [hji28] at A23)
                        have hji28w : (IntKind.i64.wrap ((ji17) + 1)) = ji28 := (i64_w _).trans hji28
                        by_cases c29 : 0 ≤ (ji28)
                        · rw [if_pos c29] at H
                          have c29b0 := eq_true c29
                          have c29b1 : decide (0 ≤ (ji28)) = true := decide_eq_true c29
                          clear c29
                          by_cases c30 : (ji28) ≤ (t199.size : Int)
                          · rw [if_pos c30] at H
                            have c30b0 := eq_true c30
                            have c30b1 : decide ((ji28) ≤ (t199.size : Int)) = true := decide_eq_true c30
                            clear c30
                            by_cases c31 : ((t199.extract 0 ((ji17) : Int).toNat) ++ (strOfNums y204)).size + (t199.extract ((ji28) : Int).toNat t199.size).size ≤ 9223372036854775807
                            · rw [if_pos c31] at H
                              have c31b0 := eq_true c31
                              have c31b1 : decide (((t199.extract 0 ((ji17) : Int).toNat) ++ (strOfNums y204)).size + (t199.extract ((ji28) : Int).toNat t199.size).size ≤ 9223372036854775807) = true := decide_eq_true c31
                              try have c31b2 : (9223372036854775807 < ((t199.extract 0 ((ji17) : Int).toNat) ++ (strOfNums y204)).size + (t199.extract ((ji28) : Int).toNat t199.size).size) = False := eq_false (Nat.not_lt.2 c31)
                              try (have c31b5 := c31b2; simp only [ByteArray.size_append, ByteArray.size_extract, Nat.min_self, Nat.sub_zero] at c31b5)
                              try (have c31b3 := c31b2; simp only [ByteArray.size_extract, Nat.min_self, Nat.sub_zero] at c31b3)
                              try (have c31b6 := c31b5; have hz_ : ji17 ≤ (t199.size : Int) := of_decide_eq_true (by first | (with_reducible assumption) | assumption); rw [Nat.min_eq_left (show ji17.toNat ≤ t199.size by omega)] at c31b6; clear hz_)
                              replace H := Option.bind_eq_some_iff.mp H
                              obtain ⟨t207, A320, H⟩ := H
                              replace H : (some (!t207)) = some r := H
                              have A32 := Aside0.mk A320
                              clear A320
                              obtain rfl := Option.some.inj H
                              go_enter Try.func6, Try.ntmps6
                              try go_wp2_with (first | ((with_reducible refine gate_callee (f := 9) rfl ?_); refine goesL_ (some 9) rfl rfl Try.func9 (by kernel_rfl) rfl #[.slice A0 l0.length c0] rfl (by (try simp only [List.map_toArray, List.map_cons, List.map_nil]); first | done | rfl | (simp only [List.length_drop, List.length_take]; rfl)) ?_; (with_reducible refine (laws_big.calls _ _ l0 false _ ?side1 ?side2 A2.out).mono ?_); (case side1 => repeat (first | exact HR0.out | (with_reducible refine Kd.C_alloc ?_ _) | (with_reducible refine Kd.C_drewN ?_ _) | (with_reducible refine Kd.C_drew ?_))); (case side2 => exact HC0.out); rintro e w' ⟨rfl, ⟨nd, rfl⟩⟩; refine ⟨_, rfl, ?_⟩) | ((with_reducible refine gate_callee (f := 18) rfl ?_); refine goesL_ (some 10) rfl rfl Try.func18 (by kernel_rfl) rfl #[.string (⟨#[88, 88]⟩ : ByteArray), .string (⟨#[48, 48, 48, 48]⟩ : ByteArray)] rfl (by (try simp only [List.map_toArray, List.map_cons, List.map_nil]); first | done | rfl | (simp only [List.length_drop, List.length_take]; rfl)) ?_; (with_reducible refine (impl_MakeNumber.calls k (⟨#[88, 88]⟩ : ByteArray) (⟨#[48, 48, 48, 48]⟩ : ByteArray) t196 _ A4.out).mono ?_); rintro e w33 ⟨rfl, hb⟩; refine ⟨_, rfl, ?_⟩; have n0_ := Aside0.mk (below_step (by repeat (first | (with_reducible first | exact HB.out | apply below_alloc | apply pw_below_drewN | apply below_drew1) | exact HB.out)) hb); clear HB; have HB := n0_; clear n0_; (try clear hb); (try clear hb2); (try clear hk); (try clear hi)) | ((with_reducible refine gate_callee (f := 19) rfl ?_); refine goesL_ (some 14) rfl rfl Try.func19 (by kernel_rfl) rfl #[.slice A0 l0.length c0] rfl (by (try simp only [List.map_toArray, List.map_cons, List.map_nil]); first | done | rfl | (simp only [List.length_drop, List.length_take]; rfl)) ?_; (with_reducible refine (spec_DrawMakeNumber.calls k _ _ l0 t197 t198 _ ?side1 ?side2 A6.out).mono ?_); (case side1 => repeat (first | exact (Kd.C_below HR0.out HB.out) | (with_reducible refine Kd.C_alloc ?_ _) | (with_reducible refine Kd.C_drewN ?_ _) | (with_reducible refine Kd.C_drew ?_))); (case side2 => exact HC0.out); rintro e w34 ⟨rfl, hb⟩; refine ⟨_, rfl, ?_⟩; have n0_ := Aside0.mk (below_step (by repeat (first | (with_reducible first | exact HB.out | apply below_alloc | apply pw_below_drewN | apply below_drew1) | exact HB.out)) hb); clear HB; have HB := n0_; clear n0_; (try clear hb); (try clear hb2); (try clear hk); (try clear hi)) | ((with_reducible refine gate_callee (f := 18) rfl ?_); refine goesL_ (some 19) rfl rfl Try.func18 (by kernel_rfl) rfl #[.string t197, .string t198] rfl (by (try simp only [List.map_toArray, List.map_cons, List.map_nil]); first | done | rfl | (simp only [List.length_drop, List.length_take]; rfl)) ?_; (with_reducible refine (impl_MakeNumber.calls k t197 t198 t199 _ A7.out).mono ?_); rintro e w35 ⟨rfl, hb⟩; refine ⟨_, rfl, ?_⟩; have n0_ := Aside0.mk (below_step (by repeat (first | (with_reducible first | exact HB.out | apply below_alloc | apply pw_below_drewN | apply below_drew1) | exact HB.out)) hb); clear HB; have HB := n0_; clear n0_; (try clear hb); (try clear hb2); (try clear hk); (try clear hi)) | ((with_reducible refine gate_callee (f := 20) rfl ?_); refine goesL_ (some 23) rfl rfl Try.func20 (by kernel_rfl) rfl #[.string t197, .string t198] rfl (by (try simp only [List.map_toArray, List.map_cons, List.map_nil]); first | done | rfl | (simp only [List.length_drop, List.length_take]; rfl)) ?_; (with_reducible refine (spec_MakeNumber.calls k t197 t198 t200 _ A8.out).mono ?_); rintro e w36 ⟨rfl, hb⟩; refine ⟨_, rfl, ?_⟩; have n0_ := Aside0.mk (below_step (by repeat (first | (with_reducible first | exact HB.out | apply below_alloc | apply pw_below_drewN | apply below_drew1) | exact HB.out)) hb); clear HB; have HB := n0_; clear n0_; (try clear hb); (try clear hb2); (try clear hk); (try clear hi)) | ((with_reducible refine gate_callee (f := 21) rfl ?_); refine goesL_ (some 28) rfl rfl Try.func21 (by kernel_rfl) rfl #[.slice A0 l0.length c0, .int .i64 0] rfl (by (try simp only [List.map_toArray, List.map_cons, List.map_nil]); first | done | rfl | (simp only [List.length_drop, List.length_take]; rfl)) ?_; (with_reducible refine (laws_at.calls _ _ l0 0 t201 _ ?side1 ?side2 A15.out).mono ?_); (case side1 => repeat (first | exact (Kd.C_below HR0.out HB.out) | (with_reducible refine Kd.C_alloc ?_ _) | (with_reducible refine Kd.C_drewN ?_ _) | (with_reducible refine Kd.C_drew ?_))); (case side2 => exact HC0.out); rintro e w' ⟨rfl, ⟨nd, rfl⟩⟩; refine ⟨_, rfl, ?_⟩; have p20 : 0 ≤ ((ji17) : Int) := of_decide_eq_true (by first | (with_reducible assumption) | assumption); have q20 : (ji17) < (t199.size : Int) := of_decide_eq_true (by first | (with_reducible assumption) | assumption); have hx20 := bt_at t199 (ji17); replace p20 := eq_true p20; replace q20 := eq_true q20) | ((with_reducible refine gate_callee (f := 21) rfl ?_); refine goesL_ (some 40) rfl rfl Try.func21 (by kernel_rfl) rfl #[.slice A0 l0.length c0, .int .i64 1] rfl (by (try simp only [List.map_toArray, List.map_cons, List.map_nil]); first | done | rfl | (simp only [List.length_drop, List.length_take]; rfl)) ?_; (with_reducible refine (laws_at.calls _ _ l0 1 t202 _ ?side1 ?side2 A22.out).mono ?_); (case side1 => repeat (first | exact (Kd.C_below HR0.out (by repeat (first | (with_reducible first | exact HB.out | apply below_alloc | apply pw_below_drewN | apply below_drew1) | exact HB.out))) | (with_reducible refine Kd.C_alloc ?_ _) | (with_reducible refine Kd.C_drewN ?_ _) | (with_reducible refine Kd.C_drew ?_))); (case side2 => exact HC0.out); rintro e w' ⟨rfl, ⟨nd, rfl⟩⟩; refine ⟨_, rfl, ?_⟩))
                              (try (rw [drewN_self w36]; generalize hq_ : World.drewN w36 _ = w36; have n0_ : Aside0 (Below w.heap.size w w36) := ⟨by rw [← hq_]; exact (by repeat (first | (with_reducible first | exact HB.out | apply below_alloc | apply pw_below_drewN | apply below_drew1) | exact HB.out))⟩; clear HB hq_; have HB := n0_; clear n0_))
                              have n0_ := Aside0.mk (below_drew1 HB.out)
                              clear HB
                              have HB := n0_
                              clear n0_
                              refine start_ (n := 19) (S := fun w' => True) (ds := []) #[false, false, false, false, false, false, false, false, false, false, false, false, false, false, false, false, false, false, false] (by kernel_rfl) rfl rfl trivial (fun hHeld => ?_); refine with_tabW laws_FnNumbered.tab16 laws_FnNumbered.bits16 (fun HT_ HW_ => ?_)
                              generalize w36.drew = w37 at HB hHeld ⊢
                              refine pure_ (i := 0) (N := some 57) (v := ?_) (a' := ?_) #[true, false, false, false, false, false, false, false, false, false, false, false, false, false, false, false, false, false, false] rfl rfl (any_of HT_.out (by kernel_rfl)) (fun _ _ _ h => h) (Or.inl ⟨by rfl, ?_⟩) ?_ ?_
                              rotate_left
                              · intro w'
                                go_simp
                                with_reducible rfl
                              rotate_left
                              · simp only [Act.put, List.setIfInBounds_toArray, List.set_cons_zero, List.set_cons_succ, i64_w, i32_w]
                                rfl
                              refine one_ (i := 1) (N := some 58) #[true, true, false, false, false, false, false, false, false, false, false, false, false, false, false, false, false, false, false] rfl rfl (one_of HT_.out (by kernel_rfl)) (by decide) (fun K hK => ?_)
                              refine goes_ Try.func22 (by kernel_rfl) rfl #[.string t199] (by rfl) rfl rfl (by (try simp only [List.map_toArray, List.map_cons, List.map_nil]); first | done | rfl | (simp only [List.length_drop, List.length_take]; rfl)) ?_
                              with_reducible refine (impl_AccountNumber.calls t199 true _ A23.out).mono ?_
                              rintro e w38 ⟨rfl, hb⟩
                              refine ⟨_, rfl, ?_⟩
                              have n0_ := Aside0.mk (below_step (by repeat (first | (with_reducible first | exact HB.out | apply below_alloc | apply pw_below_drewN | apply below_drew1) | exact HB.out)) hb)
                              clear HB
                              have HB := n0_
                              clear n0_
                              (try clear hb)
                              (try clear hb2)
                              (try clear hk)
                              (try clear hi)
                              refine hK.out _ _ trivial (fun hHeld => ?_)
                              clear hK K
                              refine norm_ (a' := ?_) ?_ ?_
                              rotate_left
                              · show Act.put _ (some 58) _ = _
                                simp only [Act.put, List.setIfInBounds_toArray, List.set_cons_zero, List.set_cons_succ, i64_w, i32_w]
                                rfl
                              refine pure_ (i := 2) (N := some 59) (v := ?_) (a' := ?_) #[true, true, true, false, false, false, false, false, false, false, false, false, false, false, false, false, false, false, false] rfl rfl (any_of HT_.out (by kernel_rfl)) (fun _ _ _ h => h) (Or.inl ⟨by rfl, ?_⟩) ?_ ?_
                              rotate_left
                              · intro w'
                                go_simp
                                with_reducible rfl
                              rotate_left
                              · simp only [Act.put, List.setIfInBounds_toArray, List.set_cons_zero, List.set_cons_succ, i64_w, i32_w]
                                rfl
                              refine pure_ (i := 3) (N := some 60) (v := ?_) (a' := ?_) #[true, true, true, true, false, false, false, false, false, false, false, false, false, false, false, false, false, false, false] rfl rfl (any_of HT_.out (by kernel_rfl)) (fun _ _ _ h => h) (Or.inl ⟨by rfl, ?_⟩) ?_ ?_
                              rotate_left
                              · intro w'
                                go_simp
                                with_reducible rfl
                              rotate_left
                              · simp only [Act.put, List.setIfInBounds_toArray, List.set_cons_zero, List.set_cons_succ, i64_w, i32_w]
                                rfl
                              refine pure_ (i := 4) (N := some 61) (v := ?_) (a' := ?_) #[true, true, true, true, true, false, false, false, false, false, false, false, false, false, false, false, false, false, false] rfl rfl (any_of HT_.out (by kernel_rfl)) (fun _ _ _ h => h) (Or.inl ⟨by rfl, ?_⟩) ?_ ?_
                              rotate_left
                              · intro w'
                                go_simp
                                with_reducible rfl
                              rotate_left
                              · simp only [Act.put, List.setIfInBounds_toArray, List.set_cons_zero, List.set_cons_succ, i64_w, i32_w]
                                rfl
                              refine pure_ (i := 5) (N := some 62) (v := ?_) (a' := ?_) #[true, true, true, true, true, true, false, false, false, false, false, false, false, false, false, false, false, false, false] rfl rfl (any_of HT_.out (by kernel_rfl)) (fun _ _ _ h => h) (Or.inl ⟨by rfl, ?_⟩) ?_ ?_
                              rotate_left
                              · intro w'
                                go_simp
                                with_reducible rfl
                              rotate_left
                              · simp only [Act.put, List.setIfInBounds_toArray, List.set_cons_zero, List.set_cons_succ, i64_w, i32_w]
                                rfl
                              refine pure_ (i := 6) (N := some 63) (v := ?_) (a' := ?_) #[true, true, true, true, true, true, true, false, false, false, false, false, false, false, false, false, false, false, false] rfl rfl (any_of HT_.out (by kernel_rfl)) (fun _ _ _ h => h) (Or.inl ⟨by rfl, ?_⟩) ?_ ?_
                              rotate_left
                              · intro w'
                                go_simp
                                with_reducible rfl
                              rotate_left
                              · simp only [Act.put, List.setIfInBounds_toArray, List.set_cons_zero, List.set_cons_succ, i64_w, i32_w]
                                rfl
                              refine pure_ (i := 10) (N := some 67) (v := ?_) (a' := ?_) #[true, true, true, true, true, true, true, false, false, false, true, false, false, false, false, false, false, false, false] rfl rfl (any_of HT_.out (by kernel_rfl)) (fun _ _ _ h => h) (Or.inl ⟨by rfl, ?_⟩) ?_ ?_
                              rotate_left
                              · intro w'
                                go_simp
                                with_reducible rfl
                              rotate_left
                              · simp only [Act.put, List.setIfInBounds_toArray, List.set_cons_zero, List.set_cons_succ, i64_w, i32_w]
                                rfl
                              refine pure_ (i := 11) (N := some 68) (v := ?_) (a' := ?_) #[true, true, true, true, true, true, true, false, false, false, true, true, false, false, false, false, false, false, false] rfl rfl (any_of HT_.out (by kernel_rfl)) (fun _ _ _ h => h) (Or.inl ⟨by rfl, ?_⟩) ?_ ?_
                              rotate_left
                              · intro w'
                                go_simp
                                with_reducible rfl
                              rotate_left
                              · simp only [Act.put, List.setIfInBounds_toArray, List.set_cons_zero, List.set_cons_succ, i64_w, i32_w]
                                rfl
                              refine pure_ (i := 12) (N := some 69) (v := ?_) (a' := ?_) #[true, true, true, true, true, true, true, false, false, false, true, true, true, false, false, false, false, false, false] rfl rfl (any_of HT_.out (by kernel_rfl)) (fun _ _ _ h => h) (Or.inl ⟨by rfl, ?_⟩) ?_ ?_
                              rotate_left
                              · intro w'
                                go_simp
                                with_reducible rfl
                              rotate_left
                              · simp only [Act.put, List.setIfInBounds_toArray, List.set_cons_zero, List.set_cons_succ, i64_w, i32_w]
                                rfl
                              refine pure_ (i := 13) (N := some 70) (v := ?_) (a' := ?_) #[true, true, true, true, true, true, true, false, false, false, true, true, true, true, false, false, false, false, false] rfl rfl (any_of HT_.out (by kernel_rfl)) (fun _ _ _ h => h) (Or.inl ⟨by rfl, ?_⟩) ?_ ?_
                              rotate_left
                              · intro w'
                                go_simp
                                with_reducible rfl
                              rotate_left
                              · simp only [Act.put, List.setIfInBounds_toArray, List.set_cons_zero, List.set_cons_succ, i64_w, i32_w]
                                rfl
                              refine one_ (i := 7) (N := some 64) #[true, true, true, true, true, true, true, true, false, false, true, true, true, true, false, false, false, false, false] rfl rfl (one_of HT_.out (by kernel_rfl)) (by decide) (fun K hK => ?_)
                              refine Kd.R_lit_step (Kd.int .u8) _ 5 ?hg (N := 64) ?hd (xs := ([48 + ((((((bt t199 (ji17)) - 48) % 256) + ((wrap64 (1 + (Int.tmod t202 9))) % 256)) % 256) % 10)] : List Int)) (inner := [.int .u8 (48 + ((((((bt t199 (ji17)) - 48) % 256) + ((wrap64 (1 + (Int.tmod t202 9))) % 256)) % 256) % 10))]) (ok := fun _ => True) (okp := fun _ => True) ?hr ?hp (fun _ hk => hk) trivial (Below.refl _ _) (Nat.le_refl _) (by simp) ?_; (case hd => rfl); (case hg => rfl); (case hr => first | (go_simp; done) | (go_simp; rfl)); (case hp => exact (Reps.one (show Kd.M (Kd.int .u8) _ _ _ (48 + ((((((bt t199 (ji17)) - 48) % 256) + ((wrap64 (1 + (Int.tmod t202 9))) % 256)) % 256) % 10)) [.int .u8 (48 + ((((((bt t199 (ji17)) - 48) % 256) + ((wrap64 (1 + (Int.tmod t202 9))) % 256)) % 256) % 10))] from rfl) (Reps.none _ _)))
                              intro v205 w39 ho40 hb hg_ hnew_
                              clear hg_ hnew_
                              (first | rw [← Ny204.out] at ho40 | (simp only [Int.reduceToNat] at ho40; rw [← Ny204.out] at ho40))
                              have n0_ := Aside0.mk (Kd.R_lower ho40 (below_size (by repeat (first | (with_reducible first | exact HB.out | apply below_alloc | apply pw_below_drewN | apply below_drew1) | exact HB.out))))
                              have n1_ := Aside0.mk (below_step (by repeat (first | (with_reducible first | exact HB.out | apply below_alloc | apply pw_below_drewN | apply below_drew1) | exact HB.out)) hb)
                              clear HB
                              have HO206 := n0_
                              have HB := n1_
                              clear n0_ n1_
                              clear hb ho40
                              refine hK.out _ _ trivial (fun hHeld => ?_)
                              clear hK K
                              refine norm_ (a' := ?_) ?_ ?_
                              rotate_left
                              · show Act.put _ (some 64) _ = _
                                simp only [Act.put, List.setIfInBounds_toArray, List.set_cons_zero, List.set_cons_succ, i64_w, i32_w]
                                rfl
                              refine one_ (i := 8) (N := some 65) #[true, true, true, true, true, true, true, true, true, false, true, true, true, true, false, false, false, false, false] rfl rfl (one_of HT_.out (by kernel_rfl)) (by decide) (fun K hK => ?_)
                              have hcv41 := own_string (P := Try.prog) Try.underlying25 Try.underlying5 Try.underlying9 (Kd.own_of_R HO206.out)
                              refine value_ (w1 := ?_) (v := ?_) (by rfl) rfl ?_ ?_
                              rotate_left 2
                              · go_simp
                                constructor
                                · rfl
                                · rfl
                              clear hcv41
                              refine hK.out _ _ trivial (fun hHeld => ?_)
                              clear hK K
                              refine norm_ (a' := ?_) ?_ ?_
                              rotate_left
                              · show Act.put _ (some 65) _ = _
                                simp only [Act.put, List.setIfInBounds_toArray, List.set_cons_zero, List.set_cons_succ, i64_w, i32_w]
                                rfl
                              refine pure_ (i := 9) (N := some 66) (v := ?_) (a' := ?_) #[true, true, true, true, true, true, true, true, true, true, true, true, true, true, false, false, false, false, false] rfl rfl (any_of HT_.out (by kernel_rfl)) (fun _ _ _ h => h) (Or.inl ⟨by rfl, ?_⟩) ?_ ?_
                              rotate_left
                              · intro w'
                                go_simp
                                with_reducible rfl
                              rotate_left
                              · simp only [Act.put, List.setIfInBounds_toArray, List.set_cons_zero, List.set_cons_succ, i64_w, i32_w]
                                rfl
                              refine pure_ (i := 14) (N := some 71) (v := ?_) (a' := ?_) #[true, true, true, true, true, true, true, true, true, true, true, true, true, true, true, false, false, false, false] rfl rfl (any_of HT_.out (by kernel_rfl)) (fun _ _ _ h => h) (Or.inl ⟨by rfl, ?_⟩) ?_ ?_
                              rotate_left
                              · intro w'
                                go_simp
                                with_reducible rfl
                              rotate_left
                              · simp only [Act.put, List.setIfInBounds_toArray, List.set_cons_zero, List.set_cons_succ, i64_w, i32_w]
                                rfl
                              refine one_ (i := 15) (N := some 72) #[true, true, true, true, true, true, true, true, true, true, true, true, true, true, true, true, false, false, false] rfl rfl (one_of HT_.out (by kernel_rfl)) (by decide) (fun K hK => ?_)
                              refine goes_ Try.func22 (by kernel_rfl) rfl #[.string (((t199.extract 0 ((ji17) : Int).toNat) ++ (strOfNums y204)) ++ (t199.extract ((ji28) : Int).toNat t199.size))] (by rfl) rfl rfl (by (try simp only [List.map_toArray, List.map_cons, List.map_nil]); first | done | (simp only [hji17, hji28]; rfl) | rfl | (simp only [List.length_drop, List.length_take]; rfl)) ?_
                              with_reducible refine (impl_AccountNumber.calls (((t199.extract 0 ((ji17) : Int).toNat) ++ (strOfNums y204)) ++ (t199.extract ((ji28) : Int).toNat t199.size)) t207 _ A32.out).mono ?_
                              rintro e w42 ⟨rfl, hb⟩
                              refine ⟨_, rfl, ?_⟩
                              have n0_ := Aside0.mk (Kd.R_below (by (with_reducible repeat (first | apply Kd.R_alloc | apply Kd.R_drewN | apply Kd.R_drew)); exact HO206.out) hb)
                              have n1_ := Aside0.mk (below_step (by repeat (first | (with_reducible first | exact HB.out | apply below_alloc | apply pw_below_drewN | apply below_drew1) | exact HB.out)) hb)
                              clear HO206
                              clear HB
                              have HO206 := n0_
                              have HB := n1_
                              clear n0_ n1_
                              (try clear hb)
                              (try clear hb2)
                              (try clear hk)
                              (try clear hi)
                              refine hK.out _ _ trivial (fun hHeld => ?_)
                              clear hK K
                              refine norm_ (a' := ?_) ?_ ?_
                              rotate_left
                              · show Act.put _ (some 72) _ = _
                                simp only [Act.put, List.setIfInBounds_toArray, List.set_cons_zero, List.set_cons_succ, i64_w, i32_w]
                                rfl
                              refine pure_ (i := 16) (N := some 73) (v := ?_) (a' := ?_) #[true, true, true, true, true, true, true, true, true, true, true, true, true, true, true, true, true, false, false] rfl rfl (any_of HT_.out (by kernel_rfl)) (fun _ _ _ h => h) (Or.inl ⟨by rfl, ?_⟩) ?_ ?_
                              rotate_left
                              · intro w'
                                go_simp
                                with_reducible rfl
                              rotate_left
                              · simp only [Act.put, List.setIfInBounds_toArray, List.set_cons_zero, List.set_cons_succ, i64_w, i32_w]
                                rfl
                              refine pure_ (i := 17) (N := some 74) (v := ?_) (a' := ?_) #[true, true, true, true, true, true, true, true, true, true, true, true, true, true, true, true, true, true, false] rfl rfl (any_of HT_.out (by kernel_rfl)) (fun _ _ _ h => h) (Or.inl ⟨by rfl, ?_⟩) ?_ ?_
                              rotate_left
                              · intro w'
                                go_simp
                                with_reducible rfl
                              rotate_left
                              · simp only [Act.put, List.setIfInBounds_toArray, List.set_cons_zero, List.set_cons_succ, i64_w, i32_w]
                                rfl
                              refine pure_ (i := 18) (N := some 2) (v := ?_) (a' := ?_) #[true, true, true, true, true, true, true, true, true, true, true, true, true, true, true, true, true, true, true] rfl rfl (any_of HT_.out (by kernel_rfl)) (fun _ _ _ h => h) (Or.inl ⟨by rfl, ?_⟩) ?_ ?_
                              rotate_left
                              · intro w'
                                go_simp
                                with_reducible rfl
                              rotate_left
                              · simp only [Act.put, List.setIfInBounds_toArray, List.set_cons_zero, List.set_cons_succ, i64_w, i32_w]
                                rfl
                              refine done_ (done_of HT_.out (by kernel_rfl)) ?_
                              try go_wp2
                              go_ret
                              exact ⟨by first | rfl | (simp [errW_none, errW_some] <;> rfl) | (simp only [← hji17, ← hji28]; first | rfl | (simp [errW_none, errW_some] <;> rfl)) | (simp [*, errW_none, errW_some] <;> rfl), by repeat (first | (with_reducible first | exact HB.out | apply below_alloc | apply pw_below_drewN | apply below_drew1) | exact HB.out)⟩
                            · rw [if_neg c31] at H
                              exact absurd H (by simp)
                          · rw [if_neg c30] at H
                            exact absurd H (by simp)
                        · rw [if_neg c29] at H
                          exact absurd H (by simp)
                      · rw [if_neg c27] at H
                        exact absurd H (by simp)
                    · rw [if_neg c26] at H
                      exact absurd H (by simp)
                  · replace c24 := Bool.eq_false_iff.mpr c24
                    subst c24
                    have H1 : (some false) = some r := by rw [if_neg (show ¬ (false = true) by decide)] at H; exact H
                    clear H
                    have H := H1
                    clear H1
                    obtain rfl := Option.some.inj H
                    go_enter Try.func6, Try.ntmps6
                    try go_wp2_with (first | ((with_reducible refine gate_callee (f := 9) rfl ?_); refine goesL_ (some 9) rfl rfl Try.func9 (by kernel_rfl) rfl #[.slice A0 l0.length c0] rfl (by (try simp only [List.map_toArray, List.map_cons, List.map_nil]); first | done | rfl | (simp only [List.length_drop, List.length_take]; rfl)) ?_; (with_reducible refine (laws_big.calls _ _ l0 false _ ?side1 ?side2 A2.out).mono ?_); (case side1 => repeat (first | exact HR0.out | (with_reducible refine Kd.C_alloc ?_ _) | (with_reducible refine Kd.C_drewN ?_ _) | (with_reducible refine Kd.C_drew ?_))); (case side2 => exact HC0.out); rintro e w' ⟨rfl, ⟨nd, rfl⟩⟩; refine ⟨_, rfl, ?_⟩) | ((with_reducible refine gate_callee (f := 18) rfl ?_); refine goesL_ (some 10) rfl rfl Try.func18 (by kernel_rfl) rfl #[.string (⟨#[88, 88]⟩ : ByteArray), .string (⟨#[48, 48, 48, 48]⟩ : ByteArray)] rfl (by (try simp only [List.map_toArray, List.map_cons, List.map_nil]); first | done | rfl | (simp only [List.length_drop, List.length_take]; rfl)) ?_; (with_reducible refine (impl_MakeNumber.calls k (⟨#[88, 88]⟩ : ByteArray) (⟨#[48, 48, 48, 48]⟩ : ByteArray) t196 _ A4.out).mono ?_); rintro e w43 ⟨rfl, hb⟩; refine ⟨_, rfl, ?_⟩; have n0_ := Aside0.mk (below_step (by repeat (first | (with_reducible first | exact HB.out | apply below_alloc | apply pw_below_drewN | apply below_drew1) | exact HB.out)) hb); clear HB; have HB := n0_; clear n0_; (try clear hb); (try clear hb2); (try clear hk); (try clear hi)) | ((with_reducible refine gate_callee (f := 19) rfl ?_); refine goesL_ (some 14) rfl rfl Try.func19 (by kernel_rfl) rfl #[.slice A0 l0.length c0] rfl (by (try simp only [List.map_toArray, List.map_cons, List.map_nil]); first | done | rfl | (simp only [List.length_drop, List.length_take]; rfl)) ?_; (with_reducible refine (spec_DrawMakeNumber.calls k _ _ l0 t197 t198 _ ?side1 ?side2 A6.out).mono ?_); (case side1 => repeat (first | exact (Kd.C_below HR0.out HB.out) | (with_reducible refine Kd.C_alloc ?_ _) | (with_reducible refine Kd.C_drewN ?_ _) | (with_reducible refine Kd.C_drew ?_))); (case side2 => exact HC0.out); rintro e w44 ⟨rfl, hb⟩; refine ⟨_, rfl, ?_⟩; have n0_ := Aside0.mk (below_step (by repeat (first | (with_reducible first | exact HB.out | apply below_alloc | apply pw_below_drewN | apply below_drew1) | exact HB.out)) hb); clear HB; have HB := n0_; clear n0_; (try clear hb); (try clear hb2); (try clear hk); (try clear hi)) | ((with_reducible refine gate_callee (f := 18) rfl ?_); refine goesL_ (some 19) rfl rfl Try.func18 (by kernel_rfl) rfl #[.string t197, .string t198] rfl (by (try simp only [List.map_toArray, List.map_cons, List.map_nil]); first | done | rfl | (simp only [List.length_drop, List.length_take]; rfl)) ?_; (with_reducible refine (impl_MakeNumber.calls k t197 t198 t199 _ A7.out).mono ?_); rintro e w45 ⟨rfl, hb⟩; refine ⟨_, rfl, ?_⟩; have n0_ := Aside0.mk (below_step (by repeat (first | (with_reducible first | exact HB.out | apply below_alloc | apply pw_below_drewN | apply below_drew1) | exact HB.out)) hb); clear HB; have HB := n0_; clear n0_; (try clear hb); (try clear hb2); (try clear hk); (try clear hi)) | ((with_reducible refine gate_callee (f := 20) rfl ?_); refine goesL_ (some 23) rfl rfl Try.func20 (by kernel_rfl) rfl #[.string t197, .string t198] rfl (by (try simp only [List.map_toArray, List.map_cons, List.map_nil]); first | done | rfl | (simp only [List.length_drop, List.length_take]; rfl)) ?_; (with_reducible refine (spec_MakeNumber.calls k t197 t198 t200 _ A8.out).mono ?_); rintro e w46 ⟨rfl, hb⟩; refine ⟨_, rfl, ?_⟩; have n0_ := Aside0.mk (below_step (by repeat (first | (with_reducible first | exact HB.out | apply below_alloc | apply pw_below_drewN | apply below_drew1) | exact HB.out)) hb); clear HB; have HB := n0_; clear n0_; (try clear hb); (try clear hb2); (try clear hk); (try clear hi)) | ((with_reducible refine gate_callee (f := 21) rfl ?_); refine goesL_ (some 28) rfl rfl Try.func21 (by kernel_rfl) rfl #[.slice A0 l0.length c0, .int .i64 0] rfl (by (try simp only [List.map_toArray, List.map_cons, List.map_nil]); first | done | rfl | (simp only [List.length_drop, List.length_take]; rfl)) ?_; (with_reducible refine (laws_at.calls _ _ l0 0 t201 _ ?side1 ?side2 A15.out).mono ?_); (case side1 => repeat (first | exact (Kd.C_below HR0.out HB.out) | (with_reducible refine Kd.C_alloc ?_ _) | (with_reducible refine Kd.C_drewN ?_ _) | (with_reducible refine Kd.C_drew ?_))); (case side2 => exact HC0.out); rintro e w' ⟨rfl, ⟨nd, rfl⟩⟩; refine ⟨_, rfl, ?_⟩; have p20 : 0 ≤ ((ji17) : Int) := of_decide_eq_true (by first | (with_reducible assumption) | assumption); have q20 : (ji17) < (t199.size : Int) := of_decide_eq_true (by first | (with_reducible assumption) | assumption); have hx20 := bt_at t199 (ji17); replace p20 := eq_true p20; replace q20 := eq_true q20) | ((with_reducible refine gate_callee (f := 21) rfl ?_); refine goesL_ (some 40) rfl rfl Try.func21 (by kernel_rfl) rfl #[.slice A0 l0.length c0, .int .i64 1] rfl (by (try simp only [List.map_toArray, List.map_cons, List.map_nil]); first | done | rfl | (simp only [List.length_drop, List.length_take]; rfl)) ?_; (with_reducible refine (laws_at.calls _ _ l0 1 t202 _ ?side1 ?side2 A22.out).mono ?_); (case side1 => repeat (first | exact (Kd.C_below HR0.out (by repeat (first | (with_reducible first | exact HB.out | apply below_alloc | apply pw_below_drewN | apply below_drew1) | exact HB.out))) | (with_reducible refine Kd.C_alloc ?_ _) | (with_reducible refine Kd.C_drewN ?_ _) | (with_reducible refine Kd.C_drew ?_))); (case side2 => exact HC0.out); rintro e w' ⟨rfl, ⟨nd, rfl⟩⟩; refine ⟨_, rfl, ?_⟩))
                    (try (rw [drewN_self w46]; generalize hq_ : World.drewN w46 _ = w46; have n0_ : Aside0 (Below w.heap.size w w46) := ⟨by rw [← hq_]; exact (by repeat (first | (with_reducible first | exact HB.out | apply below_alloc | apply pw_below_drewN | apply below_drew1) | exact HB.out))⟩; clear HB hq_; have HB := n0_; clear n0_))
                    have n0_ := Aside0.mk (below_drew1 HB.out)
                    clear HB
                    have HB := n0_
                    clear n0_
                    refine start_ (n := 19) (S := fun w' => True) (ds := []) #[false, false, false, false, false, false, false, false, false, false, false, false, false, false, false, false, false, false, false] (by kernel_rfl) rfl rfl trivial (fun hHeld => ?_); refine with_tabW laws_FnNumbered.tab16 laws_FnNumbered.bits16 (fun HT_ HW_ => ?_)
                    generalize w46.drew = w47 at HB hHeld ⊢
                    refine pure_ (i := 0) (N := some 57) (v := ?_) (a' := ?_) #[true, false, false, false, false, false, false, false, false, false, false, false, false, false, false, false, false, false, false] rfl rfl (any_of HT_.out (by kernel_rfl)) (fun _ _ _ h => h) (Or.inl ⟨by rfl, ?_⟩) ?_ ?_
                    rotate_left
                    · intro w'
                      go_simp
                      with_reducible rfl
                    rotate_left
                    · simp only [Act.put, List.setIfInBounds_toArray, List.set_cons_zero, List.set_cons_succ, i64_w, i32_w]
                      rfl
                    refine one_ (i := 1) (N := some 58) #[true, true, false, false, false, false, false, false, false, false, false, false, false, false, false, false, false, false, false] rfl rfl (one_of HT_.out (by kernel_rfl)) (by decide) (fun K hK => ?_)
                    refine goes_ Try.func22 (by kernel_rfl) rfl #[.string t199] (by rfl) rfl rfl (by (try simp only [List.map_toArray, List.map_cons, List.map_nil]); first | done | rfl | (simp only [List.length_drop, List.length_take]; rfl)) ?_
                    with_reducible refine (impl_AccountNumber.calls t199 false _ A23.out).mono ?_
                    rintro e w48 ⟨rfl, hb⟩
                    refine ⟨_, rfl, ?_⟩
                    have n0_ := Aside0.mk (below_step (by repeat (first | (with_reducible first | exact HB.out | apply below_alloc | apply pw_below_drewN | apply below_drew1) | exact HB.out)) hb)
                    clear HB
                    have HB := n0_
                    clear n0_
                    (try clear hb)
                    (try clear hb2)
                    (try clear hk)
                    (try clear hi)
                    refine hK.out _ _ trivial (fun hHeld => ?_)
                    clear hK K
                    refine norm_ (a' := ?_) ?_ ?_
                    rotate_left
                    · show Act.put _ (some 58) _ = _
                      simp only [Act.put, List.setIfInBounds_toArray, List.set_cons_zero, List.set_cons_succ, i64_w, i32_w]
                      rfl
                    refine pure_ (i := 2) (N := some 59) (v := ?_) (a' := ?_) #[true, true, true, false, false, false, false, false, false, false, false, false, false, false, false, false, false, false, false] rfl rfl (any_of HT_.out (by kernel_rfl)) (fun _ _ _ h => h) (Or.inl ⟨by rfl, ?_⟩) ?_ ?_
                    rotate_left
                    · intro w'
                      go_simp
                      with_reducible rfl
                    rotate_left
                    · simp only [Act.put, List.setIfInBounds_toArray, List.set_cons_zero, List.set_cons_succ, i64_w, i32_w]
                      rfl
                    refine pure_ (i := 3) (N := some 60) (v := undef) (a' := ?_) #[true, true, true, true, false, false, false, false, false, false, false, false, false, false, false, false, false, false, false] rfl rfl (any_of HT_.out (by kernel_rfl)) (fun _ _ _ h => h) (Or.inr ⟨by rfl, rfl⟩) ?_ ?_
                    rotate_left
                    · simp only [Act.put, List.setIfInBounds_toArray, List.set_cons_zero, List.set_cons_succ, i64_w, i32_w]
                      rfl
                    refine pure_ (i := 4) (N := some 61) (v := undef) (a' := ?_) #[true, true, true, true, true, false, false, false, false, false, false, false, false, false, false, false, false, false, false] rfl rfl (any_of HT_.out (by kernel_rfl)) (fun _ _ _ h => h) (Or.inr ⟨by rfl, rfl⟩) ?_ ?_
                    rotate_left
                    · simp only [Act.put, List.setIfInBounds_toArray, List.set_cons_zero, List.set_cons_succ, i64_w, i32_w]
                      rfl
                    refine pure_ (i := 5) (N := some 62) (v := undef) (a' := ?_) #[true, true, true, true, true, true, false, false, false, false, false, false, false, false, false, false, false, false, false] rfl rfl (any_of HT_.out (by kernel_rfl)) (fun _ _ _ h => h) (Or.inr ⟨by rfl, rfl⟩) ?_ ?_
                    rotate_left
                    · simp only [Act.put, List.setIfInBounds_toArray, List.set_cons_zero, List.set_cons_succ, i64_w, i32_w]
                      rfl
                    refine pure_ (i := 6) (N := some 63) (v := undef) (a' := ?_) #[true, true, true, true, true, true, true, false, false, false, false, false, false, false, false, false, false, false, false] rfl rfl (any_of HT_.out (by kernel_rfl)) (fun _ _ _ h => h) (Or.inr ⟨by rfl, rfl⟩) ?_ ?_
                    rotate_left
                    · simp only [Act.put, List.setIfInBounds_toArray, List.set_cons_zero, List.set_cons_succ, i64_w, i32_w]
                      rfl
                    refine pure_ (i := 7) (N := some 64) (v := undef) (a' := ?_) #[true, true, true, true, true, true, true, true, false, false, false, false, false, false, false, false, false, false, false] rfl rfl (any_of HT_.out (by kernel_rfl)) (fun _ _ _ h => h) (Or.inr ⟨by rfl, rfl⟩) ?_ ?_
                    rotate_left
                    · simp only [Act.put, List.setIfInBounds_toArray, List.set_cons_zero, List.set_cons_succ, i64_w, i32_w]
                      rfl
                    refine pure_ (i := 8) (N := some 65) (v := undef) (a' := ?_) #[true, true, true, true, true, true, true, true, true, false, false, false, false, false, false, false, false, false, false] rfl rfl (any_of HT_.out (by kernel_rfl)) (fun _ _ _ h => h) (Or.inr ⟨by rfl, rfl⟩) ?_ ?_
                    rotate_left
                    · simp only [Act.put, List.setIfInBounds_toArray, List.set_cons_zero, List.set_cons_succ, i64_w, i32_w]
                      rfl
                    refine pure_ (i := 9) (N := some 66) (v := undef) (a' := ?_) #[true, true, true, true, true, true, true, true, true, true, false, false, false, false, false, false, false, false, false] rfl rfl (any_of HT_.out (by kernel_rfl)) (fun _ _ _ h => h) (Or.inr ⟨by rfl, rfl⟩) ?_ ?_
                    rotate_left
                    · simp only [Act.put, List.setIfInBounds_toArray, List.set_cons_zero, List.set_cons_succ, i64_w, i32_w]
                      rfl
                    refine pure_ (i := 10) (N := some 67) (v := undef) (a' := ?_) #[true, true, true, true, true, true, true, true, true, true, true, false, false, false, false, false, false, false, false] rfl rfl (any_of HT_.out (by kernel_rfl)) (fun _ _ _ h => h) (Or.inr ⟨by rfl, rfl⟩) ?_ ?_
                    rotate_left
                    · simp only [Act.put, List.setIfInBounds_toArray, List.set_cons_zero, List.set_cons_succ, i64_w, i32_w]
                      rfl
                    refine pure_ (i := 11) (N := some 68) (v := undef) (a' := ?_) #[true, true, true, true, true, true, true, true, true, true, true, true, false, false, false, false, false, false, false] rfl rfl (any_of HT_.out (by kernel_rfl)) (fun _ _ _ h => h) (Or.inr ⟨by rfl, rfl⟩) ?_ ?_
                    rotate_left
                    · simp only [Act.put, List.setIfInBounds_toArray, List.set_cons_zero, List.set_cons_succ, i64_w, i32_w]
                      rfl
                    refine pure_ (i := 12) (N := some 69) (v := undef) (a' := ?_) #[true, true, true, true, true, true, true, true, true, true, true, true, true, false, false, false, false, false, false] rfl rfl (any_of HT_.out (by kernel_rfl)) (fun _ _ _ h => h) (Or.inr ⟨by rfl, rfl⟩) ?_ ?_
                    rotate_left
                    · simp only [Act.put, List.setIfInBounds_toArray, List.set_cons_zero, List.set_cons_succ, i64_w, i32_w]
                      rfl
                    refine pure_ (i := 13) (N := some 70) (v := undef) (a' := ?_) #[true, true, true, true, true, true, true, true, true, true, true, true, true, true, false, false, false, false, false] rfl rfl (any_of HT_.out (by kernel_rfl)) (fun _ _ _ h => h) (Or.inr ⟨by rfl, rfl⟩) ?_ ?_
                    rotate_left
                    · simp only [Act.put, List.setIfInBounds_toArray, List.set_cons_zero, List.set_cons_succ, i64_w, i32_w]
                      rfl
                    refine pure_ (i := 14) (N := some 71) (v := undef) (a' := ?_) #[true, true, true, true, true, true, true, true, true, true, true, true, true, true, true, false, false, false, false] rfl rfl (any_of HT_.out (by kernel_rfl)) (fun _ _ _ h => h) (Or.inr ⟨by rfl, rfl⟩) ?_ ?_
                    rotate_left
                    · simp only [Act.put, List.setIfInBounds_toArray, List.set_cons_zero, List.set_cons_succ, i64_w, i32_w]
                      rfl
                    refine pure_ (i := 15) (N := some 72) (v := undef) (a' := ?_) #[true, true, true, true, true, true, true, true, true, true, true, true, true, true, true, true, false, false, false] rfl rfl (any_of HT_.out (by kernel_rfl)) (fun _ _ _ h => h) (Or.inr ⟨by rfl, rfl⟩) ?_ ?_
                    rotate_left
                    · simp only [Act.put, List.setIfInBounds_toArray, List.set_cons_zero, List.set_cons_succ, i64_w, i32_w]
                      rfl
                    refine pure_ (i := 16) (N := some 73) (v := undef) (a' := ?_) #[true, true, true, true, true, true, true, true, true, true, true, true, true, true, true, true, true, false, false] rfl rfl (any_of HT_.out (by kernel_rfl)) (fun _ _ _ h => h) (Or.inr ⟨by rfl, rfl⟩) ?_ ?_
                    rotate_left
                    · simp only [Act.put, List.setIfInBounds_toArray, List.set_cons_zero, List.set_cons_succ, i64_w, i32_w]
                      rfl
                    refine pure_ (i := 17) (N := some 74) (v := ?_) (a' := ?_) #[true, true, true, true, true, true, true, true, true, true, true, true, true, true, true, true, true, true, false] rfl rfl (any_of HT_.out (by kernel_rfl)) (fun _ _ _ h => h) (Or.inl ⟨by rfl, ?_⟩) ?_ ?_
                    rotate_left
                    · intro w'
                      go_simp
                      with_reducible rfl
                    rotate_left
                    · simp only [Act.put, List.setIfInBounds_toArray, List.set_cons_zero, List.set_cons_succ, i64_w, i32_w]
                      rfl
                    refine pure_ (i := 18) (N := some 2) (v := ?_) (a' := ?_) #[true, true, true, true, true, true, true, true, true, true, true, true, true, true, true, true, true, true, true] rfl rfl (any_of HT_.out (by kernel_rfl)) (fun _ _ _ h => h) (Or.inl ⟨by rfl, ?_⟩) ?_ ?_
                    rotate_left
                    · intro w'
                      go_simp
                      with_reducible rfl
                    rotate_left
                    · simp only [Act.put, List.setIfInBounds_toArray, List.set_cons_zero, List.set_cons_succ, i64_w, i32_w]
                      rfl
                    refine done_ (done_of HT_.out (by kernel_rfl)) ?_
                    try go_wp2
                    go_ret
                    exact ⟨by first | rfl | (simp [errW_none, errW_some] <;> rfl) | (simp only [← hji17]; first | rfl | (simp [errW_none, errW_some] <;> rfl)) | (simp [*, errW_none, errW_some] <;> rfl), by repeat (first | (with_reducible first | exact HB.out | apply below_alloc | apply pw_below_drewN | apply below_drew1) | exact HB.out)⟩
                · rw [if_neg c21] at H
                  have c21b0 : decide ((bt t199 (ji17)) ≤ 57) = false := decide_eq_false c21
                  clear c21
                  replace H := Option.bind_eq_some_iff.mp H
                  obtain ⟨t208, A490, H⟩ := H
                  replace H : ((impl_AccountNumber.f t199).bind fun t209 => (if t209 = true then (if (ji17) ≤ (t199.size : Int) then ((some (([65 + ((((((bt t199 (ji17)) - 65) % 256) + ((wrap64 (1 + (Int.tmod t208 25))) % 256)) % 256) % 26)] : List Int) : List Int)).bind fun y210 => (if (t199.extract 0 ((ji17) : Int).toNat).size + (strOfNums y210).size ≤ 9223372036854775807 then (if 0 ≤ (wrap64 ((ji17) + 1)) then (if (wrap64 ((ji17) + 1)) ≤ (t199.size : Int) then (if ((t199.extract 0 ((ji17) : Int).toNat) ++ (strOfNums y210)).size + (t199.extract ((wrap64 ((ji17) + 1)) : Int).toNat t199.size).size ≤ 9223372036854775807 then ((impl_AccountNumber.f (((t199.extract 0 ((ji17) : Int).toNat) ++ (strOfNums y210)) ++ (t199.extract ((wrap64 ((ji17) + 1)) : Int).toNat t199.size))).bind fun t213 => (some (!t213))) else (none)) else (none)) else (none)) else (none))) else (none)) else (some false))) = some r := H
                  have A49 := Aside0.mk A490
                  clear A490
                  replace H := Option.bind_eq_some_iff.mp H
                  obtain ⟨t209, A500, H⟩ := H
                  replace H : (if t209 = true then (if (ji17) ≤ (t199.size : Int) then ((some (([65 + ((((((bt t199 (ji17)) - 65) % 256) + ((wrap64 (1 + (Int.tmod t208 25))) % 256)) % 256) % 26)] : List Int) : List Int)).bind fun y210 => (if (t199.extract 0 ((ji17) : Int).toNat).size + (strOfNums y210).size ≤ 9223372036854775807 then (if 0 ≤ (wrap64 ((ji17) + 1)) then (if (wrap64 ((ji17) + 1)) ≤ (t199.size : Int) then (if ((t199.extract 0 ((ji17) : Int).toNat) ++ (strOfNums y210)).size + (t199.extract ((wrap64 ((ji17) + 1)) : Int).toNat t199.size).size ≤ 9223372036854775807 then ((impl_AccountNumber.f (((t199.extract 0 ((ji17) : Int).toNat) ++ (strOfNums y210)) ++ (t199.extract ((wrap64 ((ji17) + 1)) : Int).toNat t199.size))).bind fun t213 => (some (!t213))) else (none)) else (none)) else (none)) else (none))) else (none)) else (some false)) = some r := H
                  have A50 := Aside0.mk A500
                  clear A500
                  by_cases c51 : t209 = true
                  · subst c51
                    have H1 : (if (ji17) ≤ (t199.size : Int) then ((some (([65 + ((((((bt t199 (ji17)) - 65) % 256) + ((wrap64 (1 + (Int.tmod t208 25))) % 256)) % 256) % 26)] : List Int) : List Int)).bind fun y210 => (if (t199.extract 0 ((ji17) : Int).toNat).size + (strOfNums y210).size ≤ 9223372036854775807 then (if 0 ≤ (wrap64 ((ji17) + 1)) then (if (wrap64 ((ji17) + 1)) ≤ (t199.size : Int) then (if ((t199.extract 0 ((ji17) : Int).toNat) ++ (strOfNums y210)).size + (t199.extract ((wrap64 ((ji17) + 1)) : Int).toNat t199.size).size ≤ 9223372036854775807 then ((impl_AccountNumber.f (((t199.extract 0 ((ji17) : Int).toNat) ++ (strOfNums y210)) ++ (t199.extract ((wrap64 ((ji17) + 1)) : Int).toNat t199.size))).bind fun t213 => (some (!t213))) else (none)) else (none)) else (none)) else (none))) else (none)) = some r := by rw [if_pos rfl] at H; exact H
                    clear H
                    have H := H1
                    clear H1
                    have c52b0 := eq_true (of_decide_eq_true (by first | (with_reducible assumption) | assumption) : 0 ≤ (ji17))
                    by_cases c53 : (ji17) ≤ (t199.size : Int)
                    · rw [if_pos c53] at H
                      have c53b0 := eq_true c53
                      have c53b1 : decide ((ji17) ≤ (t199.size : Int)) = true := decide_eq_true c53
                      clear c53
                      obtain ⟨y210, hy210⟩ : ∃ y_ : List Int, y_ = (([65 + ((((((bt t199 (ji17)) - 65) % 256) + ((wrap64 (1 + (Int.tmod t208 25))) % 256)) % 256) % 26)] : List Int)) := ⟨_, rfl⟩
                      replace H : (if (t199.extract 0 ((ji17) : Int).toNat).size + (strOfNums y210).size ≤ 9223372036854775807 then (if 0 ≤ (wrap64 ((ji17) + 1)) then (if (wrap64 ((ji17) + 1)) ≤ (t199.size : Int) then (if ((t199.extract 0 ((ji17) : Int).toNat) ++ (strOfNums y210)).size + (t199.extract ((wrap64 ((ji17) + 1)) : Int).toNat t199.size).size ≤ 9223372036854775807 then ((impl_AccountNumber.f (((t199.extract 0 ((ji17) : Int).toNat) ++ (strOfNums y210)) ++ (t199.extract ((wrap64 ((ji17) + 1)) : Int).toNat t199.size))).bind fun t213 => (some (!t213))) else (none)) else (none)) else (none)) else (none)) = some r := by first | (rw [hy210]; with_reducible exact H) | (have H2_ := (Option.bind_some _ _).symm.trans H; rw [hy210]; with_reducible exact H2_) | (have H2_ := (Option.bind_some _ _).symm.trans H; with_reducible exact H2_) | with_reducible exact H | (rw [hy210]; exact H) | exact H
                      have Ny210 := Aside0.mk hy210
                      clear hy210
                      by_cases c54 : (t199.extract 0 ((ji17) : Int).toNat).size + (strOfNums y210).size ≤ 9223372036854775807
                      · rw [if_pos c54] at H
                        have c54b0 := eq_true c54
                        have c54b1 : decide ((t199.extract 0 ((ji17) : Int).toNat).size + (strOfNums y210).size ≤ 9223372036854775807) = true := decide_eq_true c54
                        try have c54b2 : (9223372036854775807 < (t199.extract 0 ((ji17) : Int).toNat).size + (strOfNums y210).size) = False := eq_false (Nat.not_lt.2 c54)
                        try (have c54b5 := c54b2; simp only [ByteArray.size_append, ByteArray.size_extract, Nat.min_self, Nat.sub_zero] at c54b5)
                        try (have c54b3 := c54b2; simp only [ByteArray.size_extract, Nat.min_self, Nat.sub_zero] at c54b3)
                        try (have c54b6 := c54b5; have hz_ : ji17 ≤ (t199.size : Int) := of_decide_eq_true (by first | (with_reducible assumption) | assumption); rw [Nat.min_eq_left (show ji17.toNat ≤ t199.size by omega)] at c54b6; clear hz_)
                        obtain ⟨ji55, hji55⟩ : ∃ j_ : Int, (wrap64 ((ji17) + 1)) = j_ := ⟨_, rfl⟩
                        replace H : (if 0 ≤ (ji55) then (if (ji55) ≤ (t199.size : Int) then (if ((t199.extract 0 ((ji17) : Int).toNat) ++ (strOfNums y210)).size + (t199.extract ((ji55) : Int).toNat t199.size).size ≤ 9223372036854775807 then ((impl_AccountNumber.f (((t199.extract 0 ((ji17) : Int).toNat) ++ (strOfNums y210)) ++ (t199.extract ((ji55) : Int).toNat t199.size))).bind fun t213 => (some (!t213))) else (none)) else (none)) else (none)) = some r := by first | (rw [hji55] at H; exact H) | (simp only [hji55] at H ⊢; exact H)
                        (try rw [hji55] at A2)
                        (try rw [hji55] at A4)
                        (try rw [hji55] at A6)
                        (try rw [hji55] at A7)
                        (try rw [hji55] at A8)
                        (try rw [hji55] at A15)
                        (try rw [hji55] at A49)
                        (try rw [hji55] at A50)
                        have hji55w : (IntKind.i64.wrap ((ji17) + 1)) = ji55 := (i64_w _).trans hji55
                        by_cases c56 : 0 ≤ (ji55)
                        · rw [if_pos c56] at H
                          have c56b0 := eq_true c56
                          have c56b1 : decide (0 ≤ (ji55)) = true := decide_eq_true c56
                          clear c56
                          by_cases c57 : (ji55) ≤ (t199.size : Int)
                          · rw [if_pos c57] at H
                            have c57b0 := eq_true c57
                            have c57b1 : decide ((ji55) ≤ (t199.size : Int)) = true := decide_eq_true c57
                            clear c57
                            by_cases c58 : ((t199.extract 0 ((ji17) : Int).toNat) ++ (strOfNums y210)).size + (t199.extract ((ji55) : Int).toNat t199.size).size ≤ 9223372036854775807
                            · rw [if_pos c58] at H
                              have c58b0 := eq_true c58
                              have c58b1 : decide (((t199.extract 0 ((ji17) : Int).toNat) ++ (strOfNums y210)).size + (t199.extract ((ji55) : Int).toNat t199.size).size ≤ 9223372036854775807) = true := decide_eq_true c58
                              try have c58b2 : (9223372036854775807 < ((t199.extract 0 ((ji17) : Int).toNat) ++ (strOfNums y210)).size + (t199.extract ((ji55) : Int).toNat t199.size).size) = False := eq_false (Nat.not_lt.2 c58)
                              try (have c58b5 := c58b2; simp only [ByteArray.size_append, ByteArray.size_extract, Nat.min_self, Nat.sub_zero] at c58b5)
                              try (have c58b3 := c58b2; simp only [ByteArray.size_extract, Nat.min_self, Nat.sub_zero] at c58b3)
                              try (have c58b6 := c58b5; have hz_ : ji17 ≤ (t199.size : Int) := of_decide_eq_true (by first | (with_reducible assumption) | assumption); rw [Nat.min_eq_left (show ji17.toNat ≤ t199.size by omega)] at c58b6; clear hz_)
                              replace H := Option.bind_eq_some_iff.mp H
                              obtain ⟨t213, A590, H⟩ := H
                              replace H : (some (!t213)) = some r := H
                              have A59 := Aside0.mk A590
                              clear A590
                              obtain rfl := Option.some.inj H
                              go_enter Try.func6, Try.ntmps6
                              try go_wp2_with (first | ((with_reducible refine gate_callee (f := 9) rfl ?_); refine goesL_ (some 9) rfl rfl Try.func9 (by kernel_rfl) rfl #[.slice A0 l0.length c0] rfl (by (try simp only [List.map_toArray, List.map_cons, List.map_nil]); first | done | rfl | (simp only [List.length_drop, List.length_take]; rfl)) ?_; (with_reducible refine (laws_big.calls _ _ l0 false _ ?side1 ?side2 A2.out).mono ?_); (case side1 => repeat (first | exact HR0.out | (with_reducible refine Kd.C_alloc ?_ _) | (with_reducible refine Kd.C_drewN ?_ _) | (with_reducible refine Kd.C_drew ?_))); (case side2 => exact HC0.out); rintro e w' ⟨rfl, ⟨nd, rfl⟩⟩; refine ⟨_, rfl, ?_⟩) | ((with_reducible refine gate_callee (f := 18) rfl ?_); refine goesL_ (some 10) rfl rfl Try.func18 (by kernel_rfl) rfl #[.string (⟨#[88, 88]⟩ : ByteArray), .string (⟨#[48, 48, 48, 48]⟩ : ByteArray)] rfl (by (try simp only [List.map_toArray, List.map_cons, List.map_nil]); first | done | rfl | (simp only [List.length_drop, List.length_take]; rfl)) ?_; (with_reducible refine (impl_MakeNumber.calls k (⟨#[88, 88]⟩ : ByteArray) (⟨#[48, 48, 48, 48]⟩ : ByteArray) t196 _ A4.out).mono ?_); rintro e w60 ⟨rfl, hb⟩; refine ⟨_, rfl, ?_⟩; have n0_ := Aside0.mk (below_step (by repeat (first | (with_reducible first | exact HB.out | apply below_alloc | apply pw_below_drewN | apply below_drew1) | exact HB.out)) hb); clear HB; have HB := n0_; clear n0_; (try clear hb); (try clear hb2); (try clear hk); (try clear hi)) | ((with_reducible refine gate_callee (f := 19) rfl ?_); refine goesL_ (some 14) rfl rfl Try.func19 (by kernel_rfl) rfl #[.slice A0 l0.length c0] rfl (by (try simp only [List.map_toArray, List.map_cons, List.map_nil]); first | done | rfl | (simp only [List.length_drop, List.length_take]; rfl)) ?_; (with_reducible refine (spec_DrawMakeNumber.calls k _ _ l0 t197 t198 _ ?side1 ?side2 A6.out).mono ?_); (case side1 => repeat (first | exact (Kd.C_below HR0.out HB.out) | (with_reducible refine Kd.C_alloc ?_ _) | (with_reducible refine Kd.C_drewN ?_ _) | (with_reducible refine Kd.C_drew ?_))); (case side2 => exact HC0.out); rintro e w61 ⟨rfl, hb⟩; refine ⟨_, rfl, ?_⟩; have n0_ := Aside0.mk (below_step (by repeat (first | (with_reducible first | exact HB.out | apply below_alloc | apply pw_below_drewN | apply below_drew1) | exact HB.out)) hb); clear HB; have HB := n0_; clear n0_; (try clear hb); (try clear hb2); (try clear hk); (try clear hi)) | ((with_reducible refine gate_callee (f := 18) rfl ?_); refine goesL_ (some 19) rfl rfl Try.func18 (by kernel_rfl) rfl #[.string t197, .string t198] rfl (by (try simp only [List.map_toArray, List.map_cons, List.map_nil]); first | done | rfl | (simp only [List.length_drop, List.length_take]; rfl)) ?_; (with_reducible refine (impl_MakeNumber.calls k t197 t198 t199 _ A7.out).mono ?_); rintro e w62 ⟨rfl, hb⟩; refine ⟨_, rfl, ?_⟩; have n0_ := Aside0.mk (below_step (by repeat (first | (with_reducible first | exact HB.out | apply below_alloc | apply pw_below_drewN | apply below_drew1) | exact HB.out)) hb); clear HB; have HB := n0_; clear n0_; (try clear hb); (try clear hb2); (try clear hk); (try clear hi)) | ((with_reducible refine gate_callee (f := 20) rfl ?_); refine goesL_ (some 23) rfl rfl Try.func20 (by kernel_rfl) rfl #[.string t197, .string t198] rfl (by (try simp only [List.map_toArray, List.map_cons, List.map_nil]); first | done | rfl | (simp only [List.length_drop, List.length_take]; rfl)) ?_; (with_reducible refine (spec_MakeNumber.calls k t197 t198 t200 _ A8.out).mono ?_); rintro e w63 ⟨rfl, hb⟩; refine ⟨_, rfl, ?_⟩; have n0_ := Aside0.mk (below_step (by repeat (first | (with_reducible first | exact HB.out | apply below_alloc | apply pw_below_drewN | apply below_drew1) | exact HB.out)) hb); clear HB; have HB := n0_; clear n0_; (try clear hb); (try clear hb2); (try clear hk); (try clear hi)) | ((with_reducible refine gate_callee (f := 21) rfl ?_); refine goesL_ (some 28) rfl rfl Try.func21 (by kernel_rfl) rfl #[.slice A0 l0.length c0, .int .i64 0] rfl (by (try simp only [List.map_toArray, List.map_cons, List.map_nil]); first | done | rfl | (simp only [List.length_drop, List.length_take]; rfl)) ?_; (with_reducible refine (laws_at.calls _ _ l0 0 t201 _ ?side1 ?side2 A15.out).mono ?_); (case side1 => repeat (first | exact (Kd.C_below HR0.out HB.out) | (with_reducible refine Kd.C_alloc ?_ _) | (with_reducible refine Kd.C_drewN ?_ _) | (with_reducible refine Kd.C_drew ?_))); (case side2 => exact HC0.out); rintro e w' ⟨rfl, ⟨nd, rfl⟩⟩; refine ⟨_, rfl, ?_⟩; have p20 : 0 ≤ ((ji17) : Int) := of_decide_eq_true (by first | (with_reducible assumption) | assumption); have q20 : (ji17) < (t199.size : Int) := of_decide_eq_true (by first | (with_reducible assumption) | assumption); have hx20 := bt_at t199 (ji17); replace p20 := eq_true p20; replace q20 := eq_true q20) | ((with_reducible refine gate_callee (f := 21) rfl ?_); refine goesL_ (some 50) rfl rfl Try.func21 (by kernel_rfl) rfl #[.slice A0 l0.length c0, .int .i64 1] rfl (by (try simp only [List.map_toArray, List.map_cons, List.map_nil]); first | done | rfl | (simp only [List.length_drop, List.length_take]; rfl)) ?_; (with_reducible refine (laws_at.calls _ _ l0 1 t208 _ ?side1 ?side2 A49.out).mono ?_); (case side1 => repeat (first | exact (Kd.C_below HR0.out (by repeat (first | (with_reducible first | exact HB.out | apply below_alloc | apply pw_below_drewN | apply below_drew1) | exact HB.out))) | (with_reducible refine Kd.C_alloc ?_ _) | (with_reducible refine Kd.C_drewN ?_ _) | (with_reducible refine Kd.C_drew ?_))); (case side2 => exact HC0.out); rintro e w' ⟨rfl, ⟨nd, rfl⟩⟩; refine ⟨_, rfl, ?_⟩))
                              (try (rw [drewN_self w63]; generalize hq_ : World.drewN w63 _ = w63; have n0_ : Aside0 (Below w.heap.size w w63) := ⟨by rw [← hq_]; exact (by repeat (first | (with_reducible first | exact HB.out | apply below_alloc | apply pw_below_drewN | apply below_drew1) | exact HB.out))⟩; clear HB hq_; have HB := n0_; clear n0_))
                              have n0_ := Aside0.mk (below_drew1 HB.out)
                              clear HB
                              have HB := n0_
                              clear n0_
                              refine start_ (n := 19) (S := fun w' => True) (ds := []) #[false, false, false, false, false, false, false, false, false, false, false, false, false, false, false, false, false, false, false] (by kernel_rfl) rfl rfl trivial (fun hHeld => ?_); refine with_tabW laws_FnNumbered.tab16 laws_FnNumbered.bits16 (fun HT_ HW_ => ?_)
                              generalize w63.drew = w64 at HB hHeld ⊢
                              refine pure_ (i := 0) (N := some 57) (v := ?_) (a' := ?_) #[true, false, false, false, false, false, false, false, false, false, false, false, false, false, false, false, false, false, false] rfl rfl (any_of HT_.out (by kernel_rfl)) (fun _ _ _ h => h) (Or.inl ⟨by rfl, ?_⟩) ?_ ?_
                              rotate_left
                              · intro w'
                                go_simp
                                with_reducible rfl
                              rotate_left
                              · simp only [Act.put, List.setIfInBounds_toArray, List.set_cons_zero, List.set_cons_succ, i64_w, i32_w]
                                rfl
                              refine one_ (i := 1) (N := some 58) #[true, true, false, false, false, false, false, false, false, false, false, false, false, false, false, false, false, false, false] rfl rfl (one_of HT_.out (by kernel_rfl)) (by decide) (fun K hK => ?_)
                              refine goes_ Try.func22 (by kernel_rfl) rfl #[.string t199] (by rfl) rfl rfl (by (try simp only [List.map_toArray, List.map_cons, List.map_nil]); first | done | rfl | (simp only [List.length_drop, List.length_take]; rfl)) ?_
                              with_reducible refine (impl_AccountNumber.calls t199 true _ A50.out).mono ?_
                              rintro e w65 ⟨rfl, hb⟩
                              refine ⟨_, rfl, ?_⟩
                              have n0_ := Aside0.mk (below_step (by repeat (first | (with_reducible first | exact HB.out | apply below_alloc | apply pw_below_drewN | apply below_drew1) | exact HB.out)) hb)
                              clear HB
                              have HB := n0_
                              clear n0_
                              (try clear hb)
                              (try clear hb2)
                              (try clear hk)
                              (try clear hi)
                              refine hK.out _ _ trivial (fun hHeld => ?_)
                              clear hK K
                              refine norm_ (a' := ?_) ?_ ?_
                              rotate_left
                              · show Act.put _ (some 58) _ = _
                                simp only [Act.put, List.setIfInBounds_toArray, List.set_cons_zero, List.set_cons_succ, i64_w, i32_w]
                                rfl
                              refine pure_ (i := 2) (N := some 59) (v := ?_) (a' := ?_) #[true, true, true, false, false, false, false, false, false, false, false, false, false, false, false, false, false, false, false] rfl rfl (any_of HT_.out (by kernel_rfl)) (fun _ _ _ h => h) (Or.inl ⟨by rfl, ?_⟩) ?_ ?_
                              rotate_left
                              · intro w'
                                go_simp
                                with_reducible rfl
                              rotate_left
                              · simp only [Act.put, List.setIfInBounds_toArray, List.set_cons_zero, List.set_cons_succ, i64_w, i32_w]
                                rfl
                              refine pure_ (i := 3) (N := some 60) (v := ?_) (a' := ?_) #[true, true, true, true, false, false, false, false, false, false, false, false, false, false, false, false, false, false, false] rfl rfl (any_of HT_.out (by kernel_rfl)) (fun _ _ _ h => h) (Or.inl ⟨by rfl, ?_⟩) ?_ ?_
                              rotate_left
                              · intro w'
                                go_simp
                                with_reducible rfl
                              rotate_left
                              · simp only [Act.put, List.setIfInBounds_toArray, List.set_cons_zero, List.set_cons_succ, i64_w, i32_w]
                                rfl
                              refine pure_ (i := 4) (N := some 61) (v := ?_) (a' := ?_) #[true, true, true, true, true, false, false, false, false, false, false, false, false, false, false, false, false, false, false] rfl rfl (any_of HT_.out (by kernel_rfl)) (fun _ _ _ h => h) (Or.inl ⟨by rfl, ?_⟩) ?_ ?_
                              rotate_left
                              · intro w'
                                go_simp
                                with_reducible rfl
                              rotate_left
                              · simp only [Act.put, List.setIfInBounds_toArray, List.set_cons_zero, List.set_cons_succ, i64_w, i32_w]
                                rfl
                              refine pure_ (i := 5) (N := some 62) (v := ?_) (a' := ?_) #[true, true, true, true, true, true, false, false, false, false, false, false, false, false, false, false, false, false, false] rfl rfl (any_of HT_.out (by kernel_rfl)) (fun _ _ _ h => h) (Or.inl ⟨by rfl, ?_⟩) ?_ ?_
                              rotate_left
                              · intro w'
                                go_simp
                                with_reducible rfl
                              rotate_left
                              · simp only [Act.put, List.setIfInBounds_toArray, List.set_cons_zero, List.set_cons_succ, i64_w, i32_w]
                                rfl
                              refine pure_ (i := 6) (N := some 63) (v := ?_) (a' := ?_) #[true, true, true, true, true, true, true, false, false, false, false, false, false, false, false, false, false, false, false] rfl rfl (any_of HT_.out (by kernel_rfl)) (fun _ _ _ h => h) (Or.inl ⟨by rfl, ?_⟩) ?_ ?_
                              rotate_left
                              · intro w'
                                go_simp
                                with_reducible rfl
                              rotate_left
                              · simp only [Act.put, List.setIfInBounds_toArray, List.set_cons_zero, List.set_cons_succ, i64_w, i32_w]
                                rfl
                              refine pure_ (i := 10) (N := some 67) (v := ?_) (a' := ?_) #[true, true, true, true, true, true, true, false, false, false, true, false, false, false, false, false, false, false, false] rfl rfl (any_of HT_.out (by kernel_rfl)) (fun _ _ _ h => h) (Or.inl ⟨by rfl, ?_⟩) ?_ ?_
                              rotate_left
                              · intro w'
                                go_simp
                                with_reducible rfl
                              rotate_left
                              · simp only [Act.put, List.setIfInBounds_toArray, List.set_cons_zero, List.set_cons_succ, i64_w, i32_w]
                                rfl
                              refine pure_ (i := 11) (N := some 68) (v := ?_) (a' := ?_) #[true, true, true, true, true, true, true, false, false, false, true, true, false, false, false, false, false, false, false] rfl rfl (any_of HT_.out (by kernel_rfl)) (fun _ _ _ h => h) (Or.inl ⟨by rfl, ?_⟩) ?_ ?_
                              rotate_left
                              · intro w'
                                go_simp
                                with_reducible rfl
                              rotate_left
                              · simp only [Act.put, List.setIfInBounds_toArray, List.set_cons_zero, List.set_cons_succ, i64_w, i32_w]
                                rfl
                              refine pure_ (i := 12) (N := some 69) (v := ?_) (a' := ?_) #[true, true, true, true, true, true, true, false, false, false, true, true, true, false, false, false, false, false, false] rfl rfl (any_of HT_.out (by kernel_rfl)) (fun _ _ _ h => h) (Or.inl ⟨by rfl, ?_⟩) ?_ ?_
                              rotate_left
                              · intro w'
                                go_simp
                                with_reducible rfl
                              rotate_left
                              · simp only [Act.put, List.setIfInBounds_toArray, List.set_cons_zero, List.set_cons_succ, i64_w, i32_w]
                                rfl
                              refine pure_ (i := 13) (N := some 70) (v := ?_) (a' := ?_) #[true, true, true, true, true, true, true, false, false, false, true, true, true, true, false, false, false, false, false] rfl rfl (any_of HT_.out (by kernel_rfl)) (fun _ _ _ h => h) (Or.inl ⟨by rfl, ?_⟩) ?_ ?_
                              rotate_left
                              · intro w'
                                go_simp
                                with_reducible rfl
                              rotate_left
                              · simp only [Act.put, List.setIfInBounds_toArray, List.set_cons_zero, List.set_cons_succ, i64_w, i32_w]
                                rfl
                              refine one_ (i := 7) (N := some 64) #[true, true, true, true, true, true, true, true, false, false, true, true, true, true, false, false, false, false, false] rfl rfl (one_of HT_.out (by kernel_rfl)) (by decide) (fun K hK => ?_)
                              refine Kd.R_lit_step (Kd.int .u8) _ 5 ?hg (N := 64) ?hd (xs := ([65 + ((((((bt t199 (ji17)) - 65) % 256) + ((wrap64 (1 + (Int.tmod t208 25))) % 256)) % 256) % 26)] : List Int)) (inner := [.int .u8 (65 + ((((((bt t199 (ji17)) - 65) % 256) + ((wrap64 (1 + (Int.tmod t208 25))) % 256)) % 256) % 26))]) (ok := fun _ => True) (okp := fun _ => True) ?hr ?hp (fun _ hk => hk) trivial (Below.refl _ _) (Nat.le_refl _) (by simp) ?_; (case hd => rfl); (case hg => rfl); (case hr => first | (go_simp; done) | (go_simp; rfl)); (case hp => exact (Reps.one (show Kd.M (Kd.int .u8) _ _ _ (65 + ((((((bt t199 (ji17)) - 65) % 256) + ((wrap64 (1 + (Int.tmod t208 25))) % 256)) % 256) % 26)) [.int .u8 (65 + ((((((bt t199 (ji17)) - 65) % 256) + ((wrap64 (1 + (Int.tmod t208 25))) % 256)) % 256) % 26))] from rfl) (Reps.none _ _)))
                              intro v211 w66 ho67 hb hg_ hnew_
                              clear hg_ hnew_
                              (first | rw [← Ny210.out] at ho67 | (simp only [Int.reduceToNat] at ho67; rw [← Ny210.out] at ho67))
                              have n0_ := Aside0.mk (Kd.R_lower ho67 (below_size (by repeat (first | (with_reducible first | exact HB.out | apply below_alloc | apply pw_below_drewN | apply below_drew1) | exact HB.out))))
                              have n1_ := Aside0.mk (below_step (by repeat (first | (with_reducible first | exact HB.out | apply below_alloc | apply pw_below_drewN | apply below_drew1) | exact HB.out)) hb)
                              clear HB
                              have HO212 := n0_
                              have HB := n1_
                              clear n0_ n1_
                              clear hb ho67
                              refine hK.out _ _ trivial (fun hHeld => ?_)
                              clear hK K
                              refine norm_ (a' := ?_) ?_ ?_
                              rotate_left
                              · show Act.put _ (some 64) _ = _
                                simp only [Act.put, List.setIfInBounds_toArray, List.set_cons_zero, List.set_cons_succ, i64_w, i32_w]
                                rfl
                              refine one_ (i := 8) (N := some 65) #[true, true, true, true, true, true, true, true, true, false, true, true, true, true, false, false, false, false, false] rfl rfl (one_of HT_.out (by kernel_rfl)) (by decide) (fun K hK => ?_)
                              have hcv68 := own_string (P := Try.prog) Try.underlying25 Try.underlying5 Try.underlying9 (Kd.own_of_R HO212.out)
                              refine value_ (w1 := ?_) (v := ?_) (by rfl) rfl ?_ ?_
                              rotate_left 2
                              · go_simp
                                constructor
                                · rfl
                                · rfl
                              clear hcv68
                              refine hK.out _ _ trivial (fun hHeld => ?_)
                              clear hK K
                              refine norm_ (a' := ?_) ?_ ?_
                              rotate_left
                              · show Act.put _ (some 65) _ = _
                                simp only [Act.put, List.setIfInBounds_toArray, List.set_cons_zero, List.set_cons_succ, i64_w, i32_w]
                                rfl
                              refine pure_ (i := 9) (N := some 66) (v := ?_) (a' := ?_) #[true, true, true, true, true, true, true, true, true, true, true, true, true, true, false, false, false, false, false] rfl rfl (any_of HT_.out (by kernel_rfl)) (fun _ _ _ h => h) (Or.inl ⟨by rfl, ?_⟩) ?_ ?_
                              rotate_left
                              · intro w'
                                go_simp
                                with_reducible rfl
                              rotate_left
                              · simp only [Act.put, List.setIfInBounds_toArray, List.set_cons_zero, List.set_cons_succ, i64_w, i32_w]
                                rfl
                              refine pure_ (i := 14) (N := some 71) (v := ?_) (a' := ?_) #[true, true, true, true, true, true, true, true, true, true, true, true, true, true, true, false, false, false, false] rfl rfl (any_of HT_.out (by kernel_rfl)) (fun _ _ _ h => h) (Or.inl ⟨by rfl, ?_⟩) ?_ ?_
                              rotate_left
                              · intro w'
                                go_simp
                                with_reducible rfl
                              rotate_left
                              · simp only [Act.put, List.setIfInBounds_toArray, List.set_cons_zero, List.set_cons_succ, i64_w, i32_w]
                                rfl
                              refine one_ (i := 15) (N := some 72) #[true, true, true, true, true, true, true, true, true, true, true, true, true, true, true, true, false, false, false] rfl rfl (one_of HT_.out (by kernel_rfl)) (by decide) (fun K hK => ?_)
                              refine goes_ Try.func22 (by kernel_rfl) rfl #[.string (((t199.extract 0 ((ji17) : Int).toNat) ++ (strOfNums y210)) ++ (t199.extract ((ji55) : Int).toNat t199.size))] (by rfl) rfl rfl (by (try simp only [List.map_toArray, List.map_cons, List.map_nil]); first | done | (simp only [hji17, hji55]; rfl) | rfl | (simp only [List.length_drop, List.length_take]; rfl)) ?_
                              with_reducible refine (impl_AccountNumber.calls (((t199.extract 0 ((ji17) : Int).toNat) ++ (strOfNums y210)) ++ (t199.extract ((ji55) : Int).toNat t199.size)) t213 _ A59.out).mono ?_
                              rintro e w69 ⟨rfl, hb⟩
                              refine ⟨_, rfl, ?_⟩
                              have n0_ := Aside0.mk (Kd.R_below (by (with_reducible repeat (first | apply Kd.R_alloc | apply Kd.R_drewN | apply Kd.R_drew)); exact HO212.out) hb)
                              have n1_ := Aside0.mk (below_step (by repeat (first | (with_reducible first | exact HB.out | apply below_alloc | apply pw_below_drewN | apply below_drew1) | exact HB.out)) hb)
                              clear HO212
                              clear HB
                              have HO212 := n0_
                              have HB := n1_
                              clear n0_ n1_
                              (try clear hb)
                              (try clear hb2)
                              (try clear hk)
                              (try clear hi)
                              refine hK.out _ _ trivial (fun hHeld => ?_)
                              clear hK K
                              refine norm_ (a' := ?_) ?_ ?_
                              rotate_left
                              · show Act.put _ (some 72) _ = _
                                simp only [Act.put, List.setIfInBounds_toArray, List.set_cons_zero, List.set_cons_succ, i64_w, i32_w]
                                rfl
                              refine pure_ (i := 16) (N := some 73) (v := ?_) (a' := ?_) #[true, true, true, true, true, true, true, true, true, true, true, true, true, true, true, true, true, false, false] rfl rfl (any_of HT_.out (by kernel_rfl)) (fun _ _ _ h => h) (Or.inl ⟨by rfl, ?_⟩) ?_ ?_
                              rotate_left
                              · intro w'
                                go_simp
                                with_reducible rfl
                              rotate_left
                              · simp only [Act.put, List.setIfInBounds_toArray, List.set_cons_zero, List.set_cons_succ, i64_w, i32_w]
                                rfl
                              refine pure_ (i := 17) (N := some 74) (v := ?_) (a' := ?_) #[true, true, true, true, true, true, true, true, true, true, true, true, true, true, true, true, true, true, false] rfl rfl (any_of HT_.out (by kernel_rfl)) (fun _ _ _ h => h) (Or.inl ⟨by rfl, ?_⟩) ?_ ?_
                              rotate_left
                              · intro w'
                                go_simp
                                with_reducible rfl
                              rotate_left
                              · simp only [Act.put, List.setIfInBounds_toArray, List.set_cons_zero, List.set_cons_succ, i64_w, i32_w]
                                rfl
                              refine pure_ (i := 18) (N := some 2) (v := ?_) (a' := ?_) #[true, true, true, true, true, true, true, true, true, true, true, true, true, true, true, true, true, true, true] rfl rfl (any_of HT_.out (by kernel_rfl)) (fun _ _ _ h => h) (Or.inl ⟨by rfl, ?_⟩) ?_ ?_
                              rotate_left
                              · intro w'
                                go_simp
                                with_reducible rfl
                              rotate_left
                              · simp only [Act.put, List.setIfInBounds_toArray, List.set_cons_zero, List.set_cons_succ, i64_w, i32_w]
                                rfl
                              refine done_ (done_of HT_.out (by kernel_rfl)) ?_
                              try go_wp2
                              go_ret
                              exact ⟨by first | rfl | (simp [errW_none, errW_some] <;> rfl) | (simp only [← hji17, ← hji55]; first | rfl | (simp [errW_none, errW_some] <;> rfl)) | (simp [*, errW_none, errW_some] <;> rfl), by repeat (first | (with_reducible first | exact HB.out | apply below_alloc | apply pw_below_drewN | apply below_drew1) | exact HB.out)⟩
                            · rw [if_neg c58] at H
                              exact absurd H (by simp)
                          · rw [if_neg c57] at H
                            exact absurd H (by simp)
                        · rw [if_neg c56] at H
                          exact absurd H (by simp)
                      · rw [if_neg c54] at H
                        exact absurd H (by simp)
                    · rw [if_neg c53] at H
                      exact absurd H (by simp)
                  · replace c51 := Bool.eq_false_iff.mpr c51
                    subst c51
                    have H1 : (some false) = some r := by rw [if_neg (show ¬ (false = true) by decide)] at H; exact H
                    clear H
                    have H := H1
                    clear H1
                    obtain rfl := Option.some.inj H
                    go_enter Try.func6, Try.ntmps6
                    try go_wp2_with (first | ((with_reducible refine gate_callee (f := 9) rfl ?_); refine goesL_ (some 9) rfl rfl Try.func9 (by kernel_rfl) rfl #[.slice A0 l0.length c0] rfl (by (try simp only [List.map_toArray, List.map_cons, List.map_nil]); first | done | rfl | (simp only [List.length_drop, List.length_take]; rfl)) ?_; (with_reducible refine (laws_big.calls _ _ l0 false _ ?side1 ?side2 A2.out).mono ?_); (case side1 => repeat (first | exact HR0.out | (with_reducible refine Kd.C_alloc ?_ _) | (with_reducible refine Kd.C_drewN ?_ _) | (with_reducible refine Kd.C_drew ?_))); (case side2 => exact HC0.out); rintro e w' ⟨rfl, ⟨nd, rfl⟩⟩; refine ⟨_, rfl, ?_⟩) | ((with_reducible refine gate_callee (f := 18) rfl ?_); refine goesL_ (some 10) rfl rfl Try.func18 (by kernel_rfl) rfl #[.string (⟨#[88, 88]⟩ : ByteArray), .string (⟨#[48, 48, 48, 48]⟩ : ByteArray)] rfl (by (try simp only [List.map_toArray, List.map_cons, List.map_nil]); first | done | rfl | (simp only [List.length_drop, List.length_take]; rfl)) ?_; (with_reducible refine (impl_MakeNumber.calls k (⟨#[88, 88]⟩ : ByteArray) (⟨#[48, 48, 48, 48]⟩ : ByteArray) t196 _ A4.out).mono ?_); rintro e w70 ⟨rfl, hb⟩; refine ⟨_, rfl, ?_⟩; have n0_ := Aside0.mk (below_step (by repeat (first | (with_reducible first | exact HB.out | apply below_alloc | apply pw_below_drewN | apply below_drew1) | exact HB.out)) hb); clear HB; have HB := n0_; clear n0_; (try clear hb); (try clear hb2); (try clear hk); (try clear hi)) | ((with_reducible refine gate_callee (f := 19) rfl ?_); refine goesL_ (some 14) rfl rfl Try.func19 (by kernel_rfl) rfl #[.slice A0 l0.length c0] rfl (by (try simp only [List.map_toArray, List.map_cons, List.map_nil]); first | done | rfl | (simp only [List.length_drop, List.length_take]; rfl)) ?_; (with_reducible refine (spec_DrawMakeNumber.calls k _ _ l0 t197 t198 _ ?side1 ?side2 A6.out).mono ?_); (case side1 => repeat (first | exact (Kd.C_below HR0.out HB.out) | (with_reducible refine Kd.C_alloc ?_ _) | (with_reducible refine Kd.C_drewN ?_ _) | (with_reducible refine Kd.C_drew ?_))); (case side2 => exact HC0.out); rintro e w71 ⟨rfl, hb⟩; refine ⟨_, rfl, ?_⟩; have n0_ := Aside0.mk (below_step (by repeat (first | (with_reducible first | exact HB.out | apply below_alloc | apply pw_below_drewN | apply below_drew1) | exact HB.out)) hb); clear HB; have HB := n0_; clear n0_; (try clear hb); (try clear hb2); (try clear hk); (try clear hi)) | ((with_reducible refine gate_callee (f := 18) rfl ?_); refine goesL_ (some 19) rfl rfl Try.func18 (by kernel_rfl) rfl #[.string t197, .string t198] rfl (by (try simp only [List.map_toArray, List.map_cons, List.map_nil]); first | done | rfl | (simp only [List.length_drop, List.length_take]; rfl)) ?_; (with_reducible refine (impl_MakeNumber.calls k t197 t198 t199 _ A7.out).mono ?_); rintro e w72 ⟨rfl, hb⟩; refine ⟨_, rfl, ?_⟩; have n0_ := Aside0.mk (below_step (by repeat (first | (with_reducible first | exact HB.out | apply below_alloc | apply pw_below_drewN | apply below_drew1) | exact HB.out)) hb); clear HB; have HB := n0_; clear n0_; (try clear hb); (try clear hb2); (try clear hk); (try clear hi)) | ((with_reducible refine gate_callee (f := 20) rfl ?_); refine goesL_ (some 23) rfl rfl Try.func20 (by kernel_rfl) rfl #[.string t197, .string t198] rfl (by (try simp only [List.map_toArray, List.map_cons, List.map_nil]); first | done | rfl | (simp only [List.length_drop, List.length_take]; rfl)) ?_; (with_reducible refine (spec_MakeNumber.calls k t197 t198 t200 _ A8.out).mono ?_); rintro e w73 ⟨rfl, hb⟩; refine ⟨_, rfl, ?_⟩; have n0_ := Aside0.mk (below_step (by repeat (first | (with_reducible first | exact HB.out | apply below_alloc | apply pw_below_drewN | apply below_drew1) | exact HB.out)) hb); clear HB; have HB := n0_; clear n0_; (try clear hb); (try clear hb2); (try clear hk); (try clear hi)) | ((with_reducible refine gate_callee (f := 21) rfl ?_); refine goesL_ (some 28) rfl rfl Try.func21 (by kernel_rfl) rfl #[.slice A0 l0.length c0, .int .i64 0] rfl (by (try simp only [List.map_toArray, List.map_cons, List.map_nil]); first | done | rfl | (simp only [List.length_drop, List.length_take]; rfl)) ?_; (with_reducible refine (laws_at.calls _ _ l0 0 t201 _ ?side1 ?side2 A15.out).mono ?_); (case side1 => repeat (first | exact (Kd.C_below HR0.out HB.out) | (with_reducible refine Kd.C_alloc ?_ _) | (with_reducible refine Kd.C_drewN ?_ _) | (with_reducible refine Kd.C_drew ?_))); (case side2 => exact HC0.out); rintro e w' ⟨rfl, ⟨nd, rfl⟩⟩; refine ⟨_, rfl, ?_⟩; have p20 : 0 ≤ ((ji17) : Int) := of_decide_eq_true (by first | (with_reducible assumption) | assumption); have q20 : (ji17) < (t199.size : Int) := of_decide_eq_true (by first | (with_reducible assumption) | assumption); have hx20 := bt_at t199 (ji17); replace p20 := eq_true p20; replace q20 := eq_true q20) | ((with_reducible refine gate_callee (f := 21) rfl ?_); refine goesL_ (some 50) rfl rfl Try.func21 (by kernel_rfl) rfl #[.slice A0 l0.length c0, .int .i64 1] rfl (by (try simp only [List.map_toArray, List.map_cons, List.map_nil]); first | done | rfl | (simp only [List.length_drop, List.length_take]; rfl)) ?_; (with_reducible refine (laws_at.calls _ _ l0 1 t208 _ ?side1 ?side2 A49.out).mono ?_); (case side1 => repeat (first | exact (Kd.C_below HR0.out (by repeat (first | (with_reducible first | exact HB.out | apply below_alloc | apply pw_below_drewN | apply below_drew1) | exact HB.out))) | (with_reducible refine Kd.C_alloc ?_ _) | (with_reducible refine Kd.C_drewN ?_ _) | (with_reducible refine Kd.C_drew ?_))); (case side2 => exact HC0.out); rintro e w' ⟨rfl, ⟨nd, rfl⟩⟩; refine ⟨_, rfl, ?_⟩))
                    (try (rw [drewN_self w73]; generalize hq_ : World.drewN w73 _ = w73; have n0_ : Aside0 (Below w.heap.size w w73) := ⟨by rw [← hq_]; exact (by repeat (first | (with_reducible first | exact HB.out | apply below_alloc | apply pw_below_drewN | apply below_drew1) | exact HB.out))⟩; clear HB hq_; have HB := n0_; clear n0_))
                    have n0_ := Aside0.mk (below_drew1 HB.out)
                    clear HB
                    have HB := n0_
                    clear n0_
                    refine start_ (n := 19) (S := fun w' => True) (ds := []) #[false, false, false, false, false, false, false, false, false, false, false, false, false, false, false, false, false, false, false] (by kernel_rfl) rfl rfl trivial (fun hHeld => ?_); refine with_tabW laws_FnNumbered.tab16 laws_FnNumbered.bits16 (fun HT_ HW_ => ?_)
                    generalize w73.drew = w74 at HB hHeld ⊢
                    refine pure_ (i := 0) (N := some 57) (v := ?_) (a' := ?_) #[true, false, false, false, false, false, false, false, false, false, false, false, false, false, false, false, false, false, false] rfl rfl (any_of HT_.out (by kernel_rfl)) (fun _ _ _ h => h) (Or.inl ⟨by rfl, ?_⟩) ?_ ?_
                    rotate_left
                    · intro w'
                      go_simp
                      with_reducible rfl
                    rotate_left
                    · simp only [Act.put, List.setIfInBounds_toArray, List.set_cons_zero, List.set_cons_succ, i64_w, i32_w]
                      rfl
                    refine one_ (i := 1) (N := some 58) #[true, true, false, false, false, false, false, false, false, false, false, false, false, false, false, false, false, false, false] rfl rfl (one_of HT_.out (by kernel_rfl)) (by decide) (fun K hK => ?_)
                    refine goes_ Try.func22 (by kernel_rfl) rfl #[.string t199] (by rfl) rfl rfl (by (try simp only [List.map_toArray, List.map_cons, List.map_nil]); first | done | rfl | (simp only [List.length_drop, List.length_take]; rfl)) ?_
                    with_reducible refine (impl_AccountNumber.calls t199 false _ A50.out).mono ?_
                    rintro e w75 ⟨rfl, hb⟩
                    refine ⟨_, rfl, ?_⟩
                    have n0_ := Aside0.mk (below_step (by repeat (first | (with_reducible first | exact HB.out | apply below_alloc | apply pw_below_drewN | apply below_drew1) | exact HB.out)) hb)
                    clear HB
                    have HB := n0_
                    clear n0_
                    (try clear hb)
                    (try clear hb2)
                    (try clear hk)
                    (try clear hi)
                    refine hK.out _ _ trivial (fun hHeld => ?_)
                    clear hK K
                    refine norm_ (a' := ?_) ?_ ?_
                    rotate_left
                    · show Act.put _ (some 58) _ = _
                      simp only [Act.put, List.setIfInBounds_toArray, List.set_cons_zero, List.set_cons_succ, i64_w, i32_w]
                      rfl
                    refine pure_ (i := 2) (N := some 59) (v := ?_) (a' := ?_) #[true, true, true, false, false, false, false, false, false, false, false, false, false, false, false, false, false, false, false] rfl rfl (any_of HT_.out (by kernel_rfl)) (fun _ _ _ h => h) (Or.inl ⟨by rfl, ?_⟩) ?_ ?_
                    rotate_left
                    · intro w'
                      go_simp
                      with_reducible rfl
                    rotate_left
                    · simp only [Act.put, List.setIfInBounds_toArray, List.set_cons_zero, List.set_cons_succ, i64_w, i32_w]
                      rfl
                    refine pure_ (i := 3) (N := some 60) (v := undef) (a' := ?_) #[true, true, true, true, false, false, false, false, false, false, false, false, false, false, false, false, false, false, false] rfl rfl (any_of HT_.out (by kernel_rfl)) (fun _ _ _ h => h) (Or.inr ⟨by rfl, rfl⟩) ?_ ?_
                    rotate_left
                    · simp only [Act.put, List.setIfInBounds_toArray, List.set_cons_zero, List.set_cons_succ, i64_w, i32_w]
                      rfl
                    refine pure_ (i := 4) (N := some 61) (v := undef) (a' := ?_) #[true, true, true, true, true, false, false, false, false, false, false, false, false, false, false, false, false, false, false] rfl rfl (any_of HT_.out (by kernel_rfl)) (fun _ _ _ h => h) (Or.inr ⟨by rfl, rfl⟩) ?_ ?_
                    rotate_left
                    · simp only [Act.put, List.setIfInBounds_toArray, List.set_cons_zero, List.set_cons_succ, i64_w, i32_w]
                      rfl
                    refine pure_ (i := 5) (N := some 62) (v := undef) (a' := ?_) #[true, true, true, true, true, true, false, false, false, false, false, false, false, false, false, false, false, false, false] rfl rfl (any_of HT_.out (by kernel_rfl)) (fun _ _ _ h => h) (Or.inr ⟨by rfl, rfl⟩) ?_ ?_
                    rotate_left
                    · simp only [Act.put, List.setIfInBounds_toArray, List.set_cons_zero, List.set_cons_succ, i64_w, i32_w]
                      rfl
                    refine pure_ (i := 6) (N := some 63) (v := undef) (a' := ?_) #[true, true, true, true, true, true, true, false, false, false, false, false, false, false, false, false, false, false, false] rfl rfl (any_of HT_.out (by kernel_rfl)) (fun _ _ _ h => h) (Or.inr ⟨by rfl, rfl⟩) ?_ ?_
                    rotate_left
                    · simp only [Act.put, List.setIfInBounds_toArray, List.set_cons_zero, List.set_cons_succ, i64_w, i32_w]
                      rfl
                    refine pure_ (i := 7) (N := some 64) (v := undef) (a' := ?_) #[true, true, true, true, true, true, true, true, false, false, false, false, false, false, false, false, false, false, false] rfl rfl (any_of HT_.out (by kernel_rfl)) (fun _ _ _ h => h) (Or.inr ⟨by rfl, rfl⟩) ?_ ?_
                    rotate_left
                    · simp only [Act.put, List.setIfInBounds_toArray, List.set_cons_zero, List.set_cons_succ, i64_w, i32_w]
                      rfl
                    refine pure_ (i := 8) (N := some 65) (v := undef) (a' := ?_) #[true, true, true, true, true, true, true, true, true, false, false, false, false, false, false, false, false, false, false] rfl rfl (any_of HT_.out (by kernel_rfl)) (fun _ _ _ h => h) (Or.inr ⟨by rfl, rfl⟩) ?_ ?_
                    rotate_left
                    · simp only [Act.put, List.setIfInBounds_toArray, List.set_cons_zero, List.set_cons_succ, i64_w, i32_w]
                      rfl
                    refine pure_ (i := 9) (N := some 66) (v := undef) (a' := ?_) #[true, true, true, true, true, true, true, true, true, true, false, false, false, false, false, false, false, false, false] rfl rfl (any_of HT_.out (by kernel_rfl)) (fun _ _ _ h => h) (Or.inr ⟨by rfl, rfl⟩) ?_ ?_
                    rotate_left
                    · simp only [Act.put, List.setIfInBounds_toArray, List.set_cons_zero, List.set_cons_succ, i64_w, i32_w]
                      rfl
                    refine pure_ (i := 10) (N := some 67) (v := undef) (a' := ?_) #[true, true, true, true, true, true, true, true, true, true, true, false, false, false, false, false, false, false, false] rfl rfl (any_of HT_.out (by kernel_rfl)) (fun _ _ _ h => h) (Or.inr ⟨by rfl, rfl⟩) ?_ ?_
                    rotate_left
                    · simp only [Act.put, List.setIfInBounds_toArray, List.set_cons_zero, List.set_cons_succ, i64_w, i32_w]
                      rfl
                    refine pure_ (i := 11) (N := some 68) (v := undef) (a' := ?_) #[true, true, true, true, true, true, true, true, true, true, true, true, false, false, false, false, false, false, false] rfl rfl (any_of HT_.out (by kernel_rfl)) (fun _ _ _ h => h) (Or.inr ⟨by rfl, rfl⟩) ?_ ?_
                    rotate_left
                    · simp only [Act.put, List.setIfInBounds_toArray, List.set_cons_zero, List.set_cons_succ, i64_w, i32_w]
                      rfl
                    refine pure_ (i := 12) (N := some 69) (v := undef) (a' := ?_) #[true, true, true, true, true, true, true, true, true, true, true, true, true, false, false, false, false, false, false] rfl rfl (any_of HT_.out (by kernel_rfl)) (fun _ _ _ h => h) (Or.inr ⟨by rfl, rfl⟩) ?_ ?_
                    rotate_left
                    · simp only [Act.put, List.setIfInBounds_toArray, List.set_cons_zero, List.set_cons_succ, i64_w, i32_w]
                      rfl
                    refine pure_ (i := 13) (N := some 70) (v := undef) (a' := ?_) #[true, true, true, true, true, true, true, true, true, true, true, true, true, true, false, false, false, false, false] rfl rfl (any_of HT_.out (by kernel_rfl)) (fun _ _ _ h => h) (Or.inr ⟨by rfl, rfl⟩) ?_ ?_
                    rotate_left
                    · simp only [Act.put, List.setIfInBounds_toArray, List.set_cons_zero, List.set_cons_succ, i64_w, i32_w]
                      rfl
                    refine pure_ (i := 14) (N := some 71) (v := undef) (a' := ?_) #[true, true, true, true, true, true, true, true, true, true, true, true, true, true, true, false, false, false, false] rfl rfl (any_of HT_.out (by kernel_rfl)) (fun _ _ _ h => h) (Or.inr ⟨by rfl, rfl⟩) ?_ ?_
                    rotate_left
                    · simp only [Act.put, List.setIfInBounds_toArray, List.set_cons_zero, List.set_cons_succ, i64_w, i32_w]
                      rfl
                    refine pure_ (i := 15) (N := some 72) (v := undef) (a' := ?_) #[true, true, true, true, true, true, true, true, true, true, true, true, true, true, true, true, false, false, false] rfl rfl (any_of HT_.out (by kernel_rfl)) (fun _ _ _ h => h) (Or.inr ⟨by rfl, rfl⟩) ?_ ?_
                    rotate_left
                    · simp only [Act.put, List.setIfInBounds_toArray, List.set_cons_zero, List.set_cons_succ, i64_w, i32_w]
                      rfl
                    refine pure_ (i := 16) (N := some 73) (v := undef) (a' := ?_) #[true, true, true, true, true, true, true, true, true, true, true, true, true, true, true, true, true, false, false] rfl rfl (any_of HT_.out (by kernel_rfl)) (fun _ _ _ h => h) (Or.inr ⟨by rfl, rfl⟩) ?_ ?_
                    rotate_left
                    · simp only [Act.put, List.setIfInBounds_toArray, List.set_cons_zero, List.set_cons_succ, i64_w, i32_w]
                      rfl
                    refine pure_ (i := 17) (N := some 74) (v := ?_) (a' := ?_) #[true, true, true, true, true, true, true, true, true, true, true, true, true, true, true, true, true, true, false] rfl rfl (any_of HT_.out (by kernel_rfl)) (fun _ _ _ h => h) (Or.inl ⟨by rfl, ?_⟩) ?_ ?_
                    rotate_left
                    · intro w'
                      go_simp
                      with_reducible rfl
                    rotate_left
                    · simp only [Act.put, List.setIfInBounds_toArray, List.set_cons_zero, List.set_cons_succ, i64_w, i32_w]
                      rfl
                    refine pure_ (i := 18) (N := some 2) (v := ?_) (a' := ?_) #[true, true, true, true, true, true, true, true, true, true, true, true, true, true, true, true, true, true, true] rfl rfl (any_of HT_.out (by kernel_rfl)) (fun _ _ _ h => h) (Or.inl ⟨by rfl, ?_⟩) ?_ ?_
                    rotate_left
                    · intro w'
                      go_simp
                      with_reducible rfl
                    rotate_left
                    · simp only [Act.put, List.setIfInBounds_toArray, List.set_cons_zero, List.set_cons_succ, i64_w, i32_w]
                      rfl
                    refine done_ (done_of HT_.out (by kernel_rfl)) ?_
                    try go_wp2
                    go_ret
                    exact ⟨by first | rfl | (simp [errW_none, errW_some] <;> rfl) | (simp only [← hji17]; first | rfl | (simp [errW_none, errW_some] <;> rfl)) | (simp [*, errW_none, errW_some] <;> rfl), by repeat (first | (with_reducible first | exact HB.out | apply below_alloc | apply pw_below_drewN | apply below_drew1) | exact HB.out)⟩
              · rw [if_neg c19] at H
                exact absurd H (by simp)
            · rw [if_neg c18] at H
              exact absurd H (by simp)
      · rw [if_neg c9] at H
        have c9b0 : (t199.toList == t200.toList) = false := beq_eq_false_iff_ne.mpr c9
        have c9b1 : (t199.toList != t200.toList) = true := bne_iff_ne.mpr c9
        obtain rfl := Option.some.inj H
        go_enter Try.func6, Try.ntmps6
        go_wp2_with (first | ((with_reducible refine gate_callee (f := 9) rfl ?_); refine goesL_ (some 9) rfl rfl Try.func9 (by kernel_rfl) rfl #[.slice A0 l0.length c0] rfl (by (try simp only [List.map_toArray, List.map_cons, List.map_nil]); first | done | rfl | (simp only [List.length_drop, List.length_take]; rfl)) ?_; (with_reducible refine (laws_big.calls _ _ l0 false _ ?side1 ?side2 A2.out).mono ?_); (case side1 => repeat (first | exact HR0.out | (with_reducible refine Kd.C_alloc ?_ _) | (with_reducible refine Kd.C_drewN ?_ _) | (with_reducible refine Kd.C_drew ?_))); (case side2 => exact HC0.out); rintro e w' ⟨rfl, ⟨nd, rfl⟩⟩; refine ⟨_, rfl, ?_⟩) | ((with_reducible refine gate_callee (f := 18) rfl ?_); refine goesL_ (some 10) rfl rfl Try.func18 (by kernel_rfl) rfl #[.string (⟨#[88, 88]⟩ : ByteArray), .string (⟨#[48, 48, 48, 48]⟩ : ByteArray)] rfl (by (try simp only [List.map_toArray, List.map_cons, List.map_nil]); first | done | rfl | (simp only [List.length_drop, List.length_take]; rfl)) ?_; (with_reducible refine (impl_MakeNumber.calls k (⟨#[88, 88]⟩ : ByteArray) (⟨#[48, 48, 48, 48]⟩ : ByteArray) t196 _ A4.out).mono ?_); rintro e w76 ⟨rfl, hb⟩; refine ⟨_, rfl, ?_⟩; have n0_ := Aside0.mk (below_step (by repeat (first | (with_reducible first | exact HB.out | apply below_alloc | apply pw_below_drewN | apply below_drew1) | exact HB.out)) hb); clear HB; have HB := n0_; clear n0_; (try clear hb); (try clear hb2); (try clear hk); (try clear hi)) | ((with_reducible refine gate_callee (f := 19) rfl ?_); refine goesL_ (some 14) rfl rfl Try.func19 (by kernel_rfl) rfl #[.slice A0 l0.length c0] rfl (by (try simp only [List.map_toArray, List.map_cons, List.map_nil]); first | done | rfl | (simp only [List.length_drop, List.length_take]; rfl)) ?_; (with_reducible refine (spec_DrawMakeNumber.calls k _ _ l0 t197 t198 _ ?side1 ?side2 A6.out).mono ?_); (case side1 => repeat (first | exact (Kd.C_below HR0.out HB.out) | (with_reducible refine Kd.C_alloc ?_ _) | (with_reducible refine Kd.C_drewN ?_ _) | (with_reducible refine Kd.C_drew ?_))); (case side2 => exact HC0.out); rintro e w77 ⟨rfl, hb⟩; refine ⟨_, rfl, ?_⟩; have n0_ := Aside0.mk (below_step (by repeat (first | (with_reducible first | exact HB.out | apply below_alloc | apply pw_below_drewN | apply below_drew1) | exact HB.out)) hb); clear HB; have HB := n0_; clear n0_; (try clear hb); (try clear hb2); (try clear hk); (try clear hi)) | ((with_reducible refine gate_callee (f := 18) rfl ?_); refine goesL_ (some 19) rfl rfl Try.func18 (by kernel_rfl) rfl #[.string t197, .string t198] rfl (by (try simp only [List.map_toArray, List.map_cons, List.map_nil]); first | done | rfl | (simp only [List.length_drop, List.length_take]; rfl)) ?_; (with_reducible refine (impl_MakeNumber.calls k t197 t198 t199 _ A7.out).mono ?_); rintro e w78 ⟨rfl, hb⟩; refine ⟨_, rfl, ?_⟩; have n0_ := Aside0.mk (below_step (by repeat (first | (with_reducible first | exact HB.out | apply below_alloc | apply pw_below_drewN | apply below_drew1) | exact HB.out)) hb); clear HB; have HB := n0_; clear n0_; (try clear hb); (try clear hb2); (try clear hk); (try clear hi)) | ((with_reducible refine gate_callee (f := 20) rfl ?_); refine goesL_ (some 23) rfl rfl Try.func20 (by kernel_rfl) rfl #[.string t197, .string t198] rfl (by (try simp only [List.map_toArray, List.map_cons, List.map_nil]); first | done | rfl | (simp only [List.length_drop, List.length_take]; rfl)) ?_; (with_reducible refine (spec_MakeNumber.calls k t197 t198 t200 _ A8.out).mono ?_); rintro e w79 ⟨rfl, hb⟩; refine ⟨_, rfl, ?_⟩; have n0_ := Aside0.mk (below_step (by repeat (first | (with_reducible first | exact HB.out | apply below_alloc | apply pw_below_drewN | apply below_drew1) | exact HB.out)) hb); clear HB; have HB := n0_; clear n0_; (try clear hb); (try clear hb2); (try clear hk); (try clear hi)))
        go_ret
        exact ⟨by first | rfl | (simp [errW_none, errW_some] <;> rfl) | (simp [*, errW_none, errW_some] <;> rfl), by repeat (first | (with_reducible first | exact HB.out | apply below_alloc | apply pw_below_drewN | apply below_drew1) | exact HB.out)⟩
    · rw [if_neg c5] at H
      have c5b0 : (t196.toList == ([88, 88, 57, 48, 48, 48, 48, 48] : List UInt8)) = false := beq_eq_false_iff_ne.mpr c5
      have c5b1 : (t196.toList != ([88, 88, 57, 48, 48, 48, 48, 48] : List UInt8)) = true := bne_iff_ne.mpr c5
      obtain rfl := Option.some.inj H
      go_enter Try.func6, Try.ntmps6
      go_wp2_with (first | ((with_reducible refine gate_callee (f := 9) rfl ?_); refine goesL_ (some 9) rfl rfl Try.func9 (by kernel_rfl) rfl #[.slice A0 l0.length c0] rfl (by (try simp only [List.map_toArray, List.map_cons, List.map_nil]); first | done | rfl | (simp only [List.length_drop, List.length_take]; rfl)) ?_; (with_reducible refine (laws_big.calls _ _ l0 false _ ?side1 ?side2 A2.out).mono ?_); (case side1 => repeat (first | exact HR0.out | (with_reducible refine Kd.C_alloc ?_ _) | (with_reducible refine Kd.C_drewN ?_ _) | (with_reducible refine Kd.C_drew ?_))); (case side2 => exact HC0.out); rintro e w' ⟨rfl, ⟨nd, rfl⟩⟩; refine ⟨_, rfl, ?_⟩) | ((with_reducible refine gate_callee (f := 18) rfl ?_); refine goesL_ (some 10) rfl rfl Try.func18 (by kernel_rfl) rfl #[.string (⟨#[88, 88]⟩ : ByteArray), .string (⟨#[48, 48, 48, 48]⟩ : ByteArray)] rfl (by (try simp only [List.map_toArray, List.map_cons, List.map_nil]); first | done | rfl | (simp only [List.length_drop, List.length_take]; rfl)) ?_; (with_reducible refine (impl_MakeNumber.calls k (⟨#[88, 88]⟩ : ByteArray) (⟨#[48, 48, 48, 48]⟩ : ByteArray) t196 _ A4.out).mono ?_); rintro e w80 ⟨rfl, hb⟩; refine ⟨_, rfl, ?_⟩; have n0_ := Aside0.mk (below_step (by repeat (first | (with_reducible first | exact HB.out | apply below_alloc | apply pw_below_drewN | apply below_drew1) | exact HB.out)) hb); clear HB; have HB := n0_; clear n0_; (try clear hb); (try clear hb2); (try clear hk); (try clear hi)))
      go_ret
      exact ⟨by first | rfl | (simp [errW_none, errW_some] <;> rfl) | (simp [*, errW_none, errW_some] <;> rfl), by repeat (first | (with_reducible first | exact HB.out | apply below_alloc | apply pw_below_drewN | apply below_drew1) | exact HB.out)⟩

/-- THE ONE PURE STATEMENT of laws_FnNumbered: yours. -/
def laws_FnNumbered.Pure : Prop := ∀ (l0 : List Int), l0.length ≤ maxLen → l0.length * 1 ≤ 140737488351232 → (∀ x ∈ l0, (Lit.int .u8 x).wf = true) → ∃ k, laws_FnNumbered.f k l0 = some true
theorem laws_FnNumbered.walk (P : laws_FnNumbered.Pure) (a0 : Option Addr) (len0 cap0 : Nat) (z0 : List Int) (w : World) (w0 : (a0 = none ∧ len0 = 0 ∧ cap0 = 0 ∧ z0 = []) ∨ ∃ x, a0 = some x ∧ len0 ≤ cap0 ∧ cap0 ≤ maxLen ∧ z0.length = cap0 ∧ (∀ i, i < z0.length → w.cell? (x.add i) = some (.int .u8 (z0.getD i 0))) ∧ ∀ n ∈ z0, (Lit.int .u8 n).wf = true) (y0 : len0 * 1 ≤ 140737488351232) :
    Calls Try.prog 6 #[.slice a0 len0 cap0] w fun e w' => e = .returned (.bool true) ∧ Below w.heap.size w w' := by
  obtain ⟨l0, rfl, hr0, hm0, hw0, hc0⟩ := ReadsInt.ofRowC w0
  obtain ⟨k, h⟩ := P l0 hm0 y0 hw0
  refine (laws_FnNumbered.calls k _ _ l0 true w (Kd.C_of_reads (d := (0 : Int)) (h1 := fun _ => rfl) hr0) hc0 h).mono ?_
  rintro e w' ⟨rfl, hd⟩
  exact ⟨rfl, hd⟩

end Go.Proofs.Ytegkhdobjcdfnaf.PFnNumbered
