/- The row of the law FnExactCompanyFrame and its card, out of its pure statement and its contract. It bears no condition of its own. -/
import Derived.Test.YtdnfagcnojnmiabDoorCards
import Derived.Test.YtdnfagcnojnmiabDoorTie
import Derived.Test.YtdnfagcnojnmiabDoorPFnExactCompanyFramex3
import Derived.Test.YtdnfagcnojnmiabDoorRowAid
import Derived.Test.YtdnfagcnojnmiabDoorPureFnExactCompanyFrame
import Derived.WalkKit
import Derived.ProofKit
import Derived.OpenShut
import Derived.ShutString
import Derived.ChangeOld
import Derived.Below
import Derived.SizedLaws
import Derived.OpenVars
import Derived.Deep.DeepHandedRow
import Derived.Lib.LaidTab
namespace Go.Proofs.YtdnfagcnojnmiabDoor.fnExactCompanyFrame
open Go.ChangeShapes Go.WideShapes Go.ChangeAt Go.RowKit Go.Proofs.YtdnfagcnojnmiabDoor.RowAid Go.Proofs.YtdnfagcnojnmiabDoor.PFnExactCompanyFrame Go.Proofs.YtdnfagcnojnmiabDoorW.PrintWords
open Go.ChangeMaps (open_string shut_string)
set_option linter.unusedVariables false
theorem own : ownKnob Tryd.prog.godebug = none := by kernel_rfl
theorem laidOut : laidOutB Tryd.prog = true := by kernel_rfl
theorem gCodes : Tryd.prog.globalNamed "loop.example/g00040/impl.leafCodes" = some 0 := by kernel_rfl
theorem gKinds : Tryd.prog.globalNamed "loop.example/g00040/impl.leafKinds" = some 1 := by kernel_rfl
theorem tCodes : (Tryd.prog.globals[0]?).map (·.type) = some 33 := by kernel_rfl
theorem tKinds : (Tryd.prog.globals[1]?).map (·.type) = some 34 := by kernel_rfl
theorem cellsC : Tryd.prog.cellsOf 33 = 11 := by kernel_rfl
theorem cellsK : Tryd.prog.cellsOf 34 = 11 := by kernel_rfl
theorem cellsS : Tryd.prog.cellsOf 9 = 1 := by kernel_rfl
theorem cellsE : Tryd.prog.cellsOf 3 = 1 := by kernel_rfl
/-- An array of strings that reads as a list of strings holds them, cell for cell. -/
theorem cells_of_strs {H : Type} {enc : TypeId × Value → H} {P : Program} {w : World} {base : Nat} {sp : Nat → Bool} {held : Bool} {fuel : Nat} {t e : TypeId} {n : Nat} {cs : List Value} {zs : List (List UInt8)} {p : List MemPlace}
    (ht : P.underlying t = some (.array n e)) (he : P.underlying e = some .string) (hce : P.cellsOf e = 1) (hct : P.cellsOf t = n)
    (h : DataW.trod enc P w base sp held fuel t cs = some (.agg (zs.map fun z => .lit (.string z)), p)) : cs = zs.map fun z => Value.string ⟨z.toArray⟩ := by
  cases fuel with
  | zero => simp [DataW.trod] at h
  | succ fuel =>
    simp only [DataW.trod, ht, hce, hct, Nat.mul_one] at h
    split at h
    · rename_i hl
      obtain ⟨xs, hm, hx⟩ := Option.map_eq_some_iff.1 h
      have hxs : xs.map (·.1) = zs.map fun z => (DataW.lit (.string z) : DataW H) := by
        have := congrArg Prod.fst hx
        simpa using this
      have hxl : xs.length = n := by simpa using Lib.mapM_length hm
      have hzl : zs.length = n := by
        have := congrArg List.length hxs
        simp at this
        omega
      apply List.ext_getElem?
      intro i
      by_cases hi : i < n
      · obtain ⟨b, hb, hf⟩ := Lib.mapM_at hm i i (by simp [hi])
        obtain ⟨z, hc, hz, _⟩ := DataW.trod_string he hf
        have h1 : cs[i]? = some (.string z) := by
          have := congrArg (·[0]?) hc
          simpa [List.getElem?_take, List.getElem?_drop] using this
        have h2 : (xs.map (·.1))[i]? = some (DataW.lit (.string z.data.toList) : DataW H) := by simp [hb, hz]
        rw [hxs] at h2
        simp only [List.getElem?_map, Option.map_eq_some_iff, DataW.lit.injEq, Lit.string.injEq] at h2
        obtain ⟨z', hz', e'⟩ := h2
        rw [h1, List.getElem?_map, hz']
        simp only [Option.map_some, e']
      · rw [List.getElem?_eq_none (by omega), List.getElem?_eq_none (by simp; omega)]
    · cases h
/-- What the row's list gives: the cells of the two tables. -/
theorem tab {W : World} (h : laidMetH Tryd.prog Rows.fnExactCompanyFrameRow.laid W) : impl_CompanyFrame.Tab W := by
  obtain ⟨ps, ⟨g1, t1, cs1, fu1, p1, q1, hg1, ht1, hv1, hd1, ⟨g2, t2, cs2, fu2, p2, q2, hg2, ht2, hv2, hd2, _, _⟩, _⟩, _⟩ := h
  obtain rfl := Option.some.inj (gCodes.symm.trans hg1)
  obtain rfl := Option.some.inj (gKinds.symm.trans hg2)
  obtain rfl := Option.some.inj (tCodes.symm.trans ht1)
  obtain rfl := Option.some.inj (tKinds.symm.trans ht2)
  have e1 := cells_of_strs (zs := impl_CompanyFrame.codes.map (·.data.toList)) Tryd.underlying33 Tryd.underlying9 cellsS cellsC hd1
  have e2 := Lib.cells_of_tab (k := .i64) (zs := impl_CompanyFrame.kinds) Tryd.underlying34 Tryd.underlying3 cellsE cellsK hd2
  have c1 : cs1 = #[.string (⟨#[99, 97, 115, 104]⟩ : ByteArray), .string (⟨#[111, 119, 101, 100]⟩ : ByteArray), .string (⟨#[103, 111, 111, 100, 115]⟩ : ByteArray), .string (⟨#[112, 108, 97, 110, 116]⟩ : ByteArray), .string (⟨#[100, 117, 101]⟩ : ByteArray), .string (⟨#[116, 97, 120]⟩ : ByteArray), .string (⟨#[107, 101, 112, 116]⟩ : ByteArray), .string (⟨#[115, 97, 108, 101, 115]⟩ : ByteArray), .string (⟨#[117, 115, 101, 100]⟩ : ByteArray), .string (⟨#[119, 101, 97, 114]⟩ : ByteArray), .string (⟨#[99, 111, 115, 116]⟩ : ByteArray)] := Array.toList_inj.1 (e1.trans rfl)
  have c2 : cs2 = #[.int .i64 1, .int .i64 1, .int .i64 1, .int .i64 1, .int .i64 2, .int .i64 2, .int .i64 3, .int .i64 4, .int .i64 5, .int .i64 5, .int .i64 5] := Array.toList_inj.1 (e2.trans rfl)
  subst c1
  subst c2
  refine ⟨fun i hi => ?_, fun i hi => ?_⟩
  · rw [World.var?_cell gCodes hv1 i]
    rcases i with _ | _ | _ | _ | _ | _ | _ | _ | _ | _ | _ | i
    all_goals first | (exfalso; omega) | rfl
  · rw [World.var?_cell gKinds hv2 i]
    rcases i with _ | _ | _ | _ | _ | _ | _ | _ | _ | _ | _ | i
    all_goals first | (exfalso; omega) | rfl
/-- What the walk gives in every world that holds the tables. -/
theorem contract (H : Type) (enc : TypeId × Value → H) (W : World) (base : Nat) (args : Array Value) (ds gs : List (DataW H)) (before : List MemPlace)
    (hval0 : ∀ (j : Nat) t v, Tryd.f3.params[j]? = some t → args[j]? = some v → Value.okWide Tryd.prog W .any base t v)
    (hW : DataW.Whole enc Tryd.prog Tryd.f3.params.toList Rows.fnExactCompanyFrameSpec.vars false W args.toList ds gs before) (hL : laidMetH Tryd.prog Rows.fnExactCompanyFrameRow.laid W) :
    Calls Tryd.prog 3 args W fun e W' => ∃ v, e = .returned v ∧ Rows.fnExactCompanyFrameSpec.post enc Tryd.prog Tryd.f3 false true false false W args v W' := by
  have hT := tab hL
  have hW' := hW
  obtain ⟨p, q, hA0, hV, rfl, hfz, hnd⟩ := hW
  have hA : DataW.TrodAll enc Tryd.prog W 0 (fun _ => true) true Tryd.f3.params.toList args.toList ds p := hA0
  rw [Tryd.params3] at hA
  obtain ⟨ha_, rfl, rfl⟩ := trodAll_nil hA
  obtain rfl : args = #[] := by cases args; simp_all
  have hV1 := hV
  obtain ⟨_, _, _, _, dg, _, _, _, _, _, dh, _, rfl, _⟩ := trodVars_two hV
  clear hA0 hval0
  obtain ⟨k, hk⟩ := Pure.FnExactCompanyFrame
  refine (laws_FnExactCompanyFrame.calls k true W ⟨hT⟩ hk).mono fun e W' ⟨he, hd⟩ => ?_
  have bel : Below W.heap.size W W' := hd
  subst he
  exact ⟨_, rfl, _, _, _, [], _, _, hW', trodAll_mk1 (shut_bool Tryd.underlying4 _), trodAll_mk0, Below.trodVars laidOut bel (by kernel_rfl) hV1, bel.frame _, fun h => by cases h⟩
/-- A world for the witness. -/
noncomputable def setCodes : Obj → Obj
  | .cells _ t frozen => .cells #[.string (⟨#[99, 97, 115, 104]⟩ : ByteArray), .string (⟨#[111, 119, 101, 100]⟩ : ByteArray), .string (⟨#[103, 111, 111, 100, 115]⟩ : ByteArray), .string (⟨#[112, 108, 97, 110, 116]⟩ : ByteArray), .string (⟨#[100, 117, 101]⟩ : ByteArray), .string (⟨#[116, 97, 120]⟩ : ByteArray), .string (⟨#[107, 101, 112, 116]⟩ : ByteArray), .string (⟨#[115, 97, 108, 101, 115]⟩ : ByteArray), .string (⟨#[117, 115, 101, 100]⟩ : ByteArray), .string (⟨#[119, 101, 97, 114]⟩ : ByteArray), .string (⟨#[99, 111, 115, 116]⟩ : ByteArray)] t frozen
  | o => o
noncomputable def setKinds : Obj → Obj
  | .cells _ t frozen => .cells #[.int .i64 1, .int .i64 1, .int .i64 1, .int .i64 1, .int .i64 2, .int .i64 2, .int .i64 3, .int .i64 4, .int .i64 5, .int .i64 5, .int .i64 5] t frozen
  | o => o
noncomputable def laidWorld (os : Os) : World :=
  { World.holding Tryd.prog os ⟨#[], #[], []⟩ with heap := ((World.holding Tryd.prog os ⟨#[], #[], []⟩).heap.modify 0 setCodes).modify 1 setKinds }
theorem laid_met (os : Os) : laidMet Tryd.prog Rows.fnExactCompanyFrameRow.laid ((laidWorld os).forCall (fun _ _ => 0) ⟨#[], #[], []⟩).memory :=
  laidMet_of_run' 8 (by kernel_rfl) (by kernel_rfl)
theorem reads (os : Os) {H : Type} (enc : TypeId × Value → H) : ∃ places, DataW.whole enc Tryd.prog ((laidWorld os).forCall (fun _ _ => 0) ⟨#[], #[], []⟩).memory Tryd.f3.params.toList Rows.fnExactCompanyFrameSpec.vars false (#[] : Array Value).toList 8 = some ([], [.agg [.lit (.string [99, 97, 115, 104]), .lit (.string [111, 119, 101, 100]), .lit (.string [103, 111, 111, 100, 115]), .lit (.string [112, 108, 97, 110, 116]), .lit (.string [100, 117, 101]), .lit (.string [116, 97, 120]), .lit (.string [107, 101, 112, 116]), .lit (.string [115, 97, 108, 101, 115]), .lit (.string [117, 115, 101, 100]), .lit (.string [119, 101, 97, 114]), .lit (.string [99, 111, 115, 116])], .agg [.lit (.int .i64 1), .lit (.int .i64 1), .lit (.int .i64 1), .lit (.int .i64 1), .lit (.int .i64 2), .lit (.int .i64 2), .lit (.int .i64 3), .lit (.int .i64 4), .lit (.int .i64 5), .lit (.int .i64 5), .lit (.int .i64 5)]], places) :=
  ⟨MemPlace.row ⟨0, 0, none⟩ 11 ++ MemPlace.row ⟨1, 0, none⟩ 11, by kernel_rfl⟩
set_option maxRecDepth 100000 in
theorem lifted (os : Os) (started : os.Started) (H : Type) (enc : TypeId × Value → H) (F : Stop.Interp) :
    ReturnsInHanded {} Tryd.checked os 3 .any ((OpenSpec.ofChange Rows.fnExactCompanyFrameSpec).preRow enc Tryd.prog Tryd.f3 Rows.fnExactCompanyFrameRow.domain false Rows.fnExactCompanyFrameRow.laid) (((OpenSpec.ofChange Rows.fnExactCompanyFrameSpec).at F).post enc Tryd.prog Tryd.f3 false true false false) := by
  obtain ⟨places, hx⟩ := reads os enc
  refine returnsInHanded_of_row (C := Tryd.checked) (s := OpenSpec.ofChange Rows.fnExactCompanyFrameSpec) own started (by kernel_rfl) Tryd.func3
    (witness_row_at (enc := enc) (C := Tryd.checked) false (laidWorld os) #[] rfl (by kernel_rfl) (by kernel_rfl) (by kernel_rfl)
      (OpenSpec.preRow_of_cond 8 hx (by kernel_rfl) (fun k hk => by cases hk) (by kernel_rfl) (laid_met os))) ?_
  intro W base args ds gs before hval hW _ _ _ hL _ _
  exact contract H enc W base args ds gs before hval hW hL
theorem said : Rows.FnExactCompanyFrameSaid :=
  OpenClaim.holds_of_cond 3 Tryd.f3 rfl rfl rfl rfl rfl rfl rfl ⟨rfl, rfl, rfl, rfl, rfl⟩ rfl rfl rfl rfl rfl (by kernel_rfl) Tryd.func3 (by kernel_rfl)
    (of_decide_eq_true (by kernel_rfl)) (by unfold Func.isWrapper; first | (rw [if_pos (by decide +kernel)]; kernel_rfl) | (rw [if_neg (by decide +kernel)]; exact ⟨rfl, rfl⟩))
    (fun os started H enc _ F => by rw [OpenClaim.pre_eq_preRow]; exact lifted os started H enc F)
/-- No parameter wants a stand-in; the program's own looks are off. -/
theorem plain (f : FuncId) (fn : Func) (hf : Tryd.pinned.checked.prog.funcNamed "loop.example/g00040/laws.FnExactCompanyFrame" = some f) (hfn : Tryd.pinned.checked.prog.funcs[f]? = some fn) :
    false = Tryd.pinned.checked.prog.looks [] ∧ ∀ (j : Nat) t, fn.params[j]? = some t → Tryd.pinned.checked.prog.wantsStandIn t = false := by
  obtain rfl : f = 3 := Option.some.inj ((show Tryd.prog.funcNamed "loop.example/g00040/laws.FnExactCompanyFrame" = some 3 by kernel_rfl).symm.trans hf) |>.symm
  obtain rfl : fn = Tryd.f3 := (Option.some.inj (Tryd.func3.symm.trans hfn)).symm
  refine ⟨by kernel_rfl, fun j t ht => ?_⟩
  rw [Tryd.params3] at ht
  simp at ht
theorem proved : Rows.FnExactCompanyFrameCardSaid :=
  Claim7.holds_tied_plain_at .later [] _ _ _ _ said (fun _ h => by cases h) (by kernel_rfl) (fun _ h => by cases h) fnExactCompanyFrame_row_tie rfl ⟨rfl, rfl⟩ (by kernel_rfl) rfl plain (by kernel_rfl)
#print axioms proved
end Go.Proofs.YtdnfagcnojnmiabDoor.fnExactCompanyFrame
namespace Go.Proofs.YtdnfagcnojnmiabDoor
/-- The card, under a short name, for the claim. -/
theorem fnExactCompanyFrame_holds : Rows.FnExactCompanyFrameCardSaid := fnExactCompanyFrame.proved
end Go.Proofs.YtdnfagcnojnmiabDoor
