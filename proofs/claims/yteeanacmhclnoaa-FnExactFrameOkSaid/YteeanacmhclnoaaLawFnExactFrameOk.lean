/- The row of the law FnExactFrameOk, out of its pure statement and its contract. It bears no condition of its own. -/
import Derived.Test.YteeanacmhclnoaaRows
import Derived.Test.YteeanacmhclnoaaPFnExactFrameOkx7
import Derived.Test.YteeanacmhclnoaaRowAid
import Derived.Test.YteeanacmhclnoaaPureFnExactFrameOk
import Derived.WalkKit
import Derived.ProofKit
import Derived.OpenShut
import Derived.ShutString
import Derived.ChangeOld
import Derived.Below
import Derived.SizedLaws
namespace Go.Proofs.Yteeanacmhclnoaa.fnExactFrameOk
open Go.ChangeShapes Go.WideShapes Go.ChangeAt Go.RowKit Go.Proofs.Yteeanacmhclnoaa.RowAid Go.Proofs.Yteeanacmhclnoaa.PFnExactFrameOk Go.Proofs.YteeanacmhclnoaaW.PrintWords
open Go.ChangeMaps (open_string shut_string)
set_option linter.unusedVariables false
theorem own : ownKnob Try.prog.godebug = none := by kernel_rfl
theorem laidOut : laidOutB Try.prog = true := by kernel_rfl
theorem op55 : Opens Try.prog 55 k55 (fun x : S55 => (x.f0.size ≤ maxLen ∧ (Lit.int .i64 x.f1).wf = true ∧ (Lit.int .i64 x.f2).wf = true)) :=
  Opens.iso (f := fun x : S55 => (x.f0, x.f1, x.f2)) (g := fun x => (⟨x.1, x.2.1, x.2.2⟩ : S55)) (hfg := fun _ => rfl) (Opens.struct Try.underlying55 (by kernel_rfl) (OpensL.cons (Opens.string Try.underlying9) (OpensL.cons (Opens.int Try.underlying3) (OpensL.one (Opens.int Try.underlying3)))))
set_option maxRecDepth 100000 in
theorem lifted (os : Os) (started : os.Started) (H : Type) (enc : TypeId × Value → H) :
    ReturnsInHanded {} Try.checked os 3 .any (Rows.fnExactFrameOkSpec.pre6 enc Try.prog Try.f3 Rows.fnExactFrameOkRow.domain false) (Rows.fnExactFrameOkSpec.post enc Try.prog Try.f3 false true false false) := by
  refine returnsInHanded_of_change_sized (C := Try.checked) own started (by kernel_rfl) Try.func3
    (ChangeSpec.witness6 (enc := enc) (C := Try.checked) false ⟨#[], #[.agg #[.slice none 0 0, .int .i64 0, .int .i64 0]], []⟩ 8 (by kernel_rfl) (by kernel_rfl) (by kernel_rfl) (by kernel_rfl)) ?_
  intro W base args ds gs before hval0 hW hcnd hsz0 _
  have hval : ∀ (j : Nat) t v, Try.f3.params[j]? = some t → args[j]? = some v → Value.okWide Try.prog W .any base t v := hval0
  have hW' := hW
  obtain ⟨p, q, hA0, hV, rfl, hfz, hnd⟩ := hW
  have hA : DataW.TrodAll enc Try.prog W 0 (fun _ => true) true Try.f3.params.toList args.toList ds p := hA0
  rw [Try.params3] at hA hval
  obtain ⟨v0, vs0, d0, ds0, p0, q0, hargs, rfl, rfl, h0, r0⟩ := trodAll_cons hA
  obtain ⟨rfl, rfl, rfl⟩ := trodAll_nil r0
  obtain rfl : args = #[v0] := by cases args; simp_all
  obtain ⟨rfl, rfl⟩ := trodVars_none hV
  obtain ⟨cs0, rfl, hz0⟩ := okWide_struct Try.underlying24 (hval 0 24 v0 rfl rfl)
  have k0 := h0
  have lt0 : ∀ x ∈ p0, x.block < W.heap.size := by obtain ⟨m, hm⟩ := k0; exact DataW.trod_lt m _ _ _ hm
  obtain ⟨fu0, hf0⟩ := h0
  obtain ⟨x0, hK0, g0⟩ := (Opens.struct Try.underlying24 (by kernel_rfl) (OpensL.cons (Opens.slice Try.underlying22 (by kernel_rfl) op55) (OpensL.cons (Opens.int Try.underlying3) (OpensL.one (Opens.int Try.underlying3))))) H enc W _ _ fu0 _ _ hf0
  generalize hcs0 : (Value.agg cs0).cells.toList = cl0 at hK0
  obtain ⟨_, _, rfl, ⟨A0_0, c0_0, rfl, hc0_0, hr0_0⟩, ⟨_, _, rfl, rfl, rfl⟩⟩ := hK0
  obtain rfl : cs0 = #[.slice A0_0 x0.1.length c0_0, .int .i64 x0.2.1, .int .i64 x0.2.2] := by cases cs0; simpa [Value.cells] using hcs0
  clear hA0 hval0 hsz0
  obtain ⟨k, hk⟩ := Pure.FnExactFrameOk x0.1 x0.2.1 x0.2.2 g0.1 g0.2.1 g0.2.2
  refine (laws_FnExactFrameOk.calls k _ _ _ _ _ true W hr0_0 hc0_0 hk).mono fun e W' ⟨he, hd⟩ => ?_
  have bel : Below W.heap.size W W' := hd
  subst he
  exact ⟨_, rfl, _, _, _, [], _, [], hW', trodAll_mk1 (shut_bool Try.underlying4 _), (trodAll_cons_mk (Below.trod laidOut (by kernel_rfl) (of_decide_eq_true (by kernel_rfl)) k0 bel lt0) trodAll_mk0), rfl, bel.frame _, fun h => by cases h⟩
theorem over : Rows.fnExactFrameOkRow.holds Try.pinned (OpenSpec.ofChange Rows.fnExactFrameOkSpec) :=
  OpenClaim.holds_of_wide 3 Try.f3 rfl rfl rfl rfl rfl rfl rfl ⟨rfl, rfl, rfl, rfl, rfl⟩ rfl rfl rfl rfl rfl (by kernel_rfl) Try.func3 (by kernel_rfl)
    (of_decide_eq_true (by kernel_rfl)) (by unfold Func.isWrapper; first | (rw [if_pos (by decide +kernel)]; kernel_rfl) | (rw [if_neg (by decide +kernel)]; exact ⟨rfl, rfl⟩))
    (fun os started H enc _ => lifted os started H enc)
theorem proved : Rows.FnExactFrameOkSaid := over
#print axioms proved
end Go.Proofs.Yteeanacmhclnoaa.fnExactFrameOk
namespace Go.Proofs.Yteeanacmhclnoaa
/-- The row, under a short name, for the claim. -/
theorem fnExactFrameOk_holds : Rows.FnExactFrameOkSaid := fnExactFrameOk.proved
end Go.Proofs.Yteeanacmhclnoaa
