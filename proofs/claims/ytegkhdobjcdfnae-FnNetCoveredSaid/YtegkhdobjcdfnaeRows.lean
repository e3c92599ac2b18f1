/-
  No cell of these rows narrows 'for every input' (looked for: loops, veiled, ifaces, maps, wideKeys, modest, calm, conditions, laid).
  DERIVED. THE GIVEN ROWS OF THIS SEAT. 4 by the template 'for every input the law returns true; each argument reads behind the call as it read before'; 0 by the template 'total and deterministic' (their statements: YtegkhdobjcdfnaeTotals.lean).
  GIVEN WITH THE SEED: the statements are not yours to turn. If you find one false, say at which input.
  Laid BY PROGRAM, IN A SANDBOX (cutbox-rows.mjs): the forced cells as the released guide's own fill.sh prints them over the translation eac959329bd3b8c9… (all of the seat's roots in one cut). By AI agents, Wed Nov 11 2026. No macro, syntax, notation, axiom, sorry.
-/
import Derived.Test.YtegkhdobjcdfnaeChecked
import GoSem.Claim
import GoSem.ClaimJoined
import GoSem.ClaimMapViews
import Derived.JoinedTies
import Derived.KernelRfl
namespace Go.Proofs.Ytegkhdobjcdfnae
/- THE CELL 'sum', in the pinned program and in every row, IS THE sha256 OF THE DUMP (.gsa) THAT YtegkhdobjcdfnaeProg.lean LOADS. Nothing in Lean hashes anything: it is a label: what it is worth is what the hold of that sum in a sandbox is worth. -/
noncomputable def Try.pinned : Pinned := { name := "ytegkhdobjcdfnae", sum := "eac959329bd3b8c94e3c04bbd90af6b189d7bd748d9ac60be8c39c23d50bbbc7", checked := Try.checked }
namespace Rows
def none {H : Type} : Left H := { results := [], args := [] }

/-- 'laws.FnExactThingOk': WHATEVER THE INPUT: true; the input reads as it did. -/
def fnExactThingOkSpec : ChangeSpec := { name := "fnExactThingOk", fn := fun _ => fun
  | [d] => { results := [.lit (.bool true)], args := [d] }
  | _ => none }
def fnExactThingOkRow : OpenClaim := { program := "ytegkhdobjcdfnae", sum := "eac959329bd3b8c94e3c04bbd90af6b189d7bd748d9ac60be8c39c23d50bbbc7", func := "loop.example/g00040/laws.FnExactThingOk", spec := "fnExactThingOk", apart := false }
def FnExactThingOkSaid : Prop := fnExactThingOkRow.holds Try.pinned (OpenSpec.ofChange fnExactThingOkSpec)

/-- ITS FALSE NEIGHBOUR: 'it returns false'. Refute it at one input. -/
def fnExactThingOkWrong : ChangeSpec := { name := "fnExactThingOk", fn := fun _ => fun
  | [d] => { results := [.lit (.bool false)], args := [d] }
  | _ => none }
def FnExactThingOkWrongFalsely : Prop := fnExactThingOkRow.holds Try.pinned (OpenSpec.ofChange fnExactThingOkWrong)

/-- 'laws.FnExactRateAt': WHATEVER THE INPUT: true; the input reads as it did. -/
def fnExactRateAtSpec : ChangeSpec := { name := "fnExactRateAt", fn := fun _ => fun
  | [d1, d2, d3, d4] => { results := [.lit (.bool true)], args := [d1, d2, d3, d4] }
  | _ => none }
def fnExactRateAtRow : OpenClaim := { program := "ytegkhdobjcdfnae", sum := "eac959329bd3b8c94e3c04bbd90af6b189d7bd748d9ac60be8c39c23d50bbbc7", func := "loop.example/g00040/laws.FnExactRateAt", spec := "fnExactRateAt", unfollowed := true, recurses := true, apart := false }
def FnExactRateAtSaid : Prop := fnExactRateAtRow.holds Try.pinned (OpenSpec.ofChange fnExactRateAtSpec)

/-- ITS FALSE NEIGHBOUR: 'it returns false'. Refute it at one input. -/
def fnExactRateAtWrong : ChangeSpec := { name := "fnExactRateAt", fn := fun _ => fun
  | [d1, d2, d3, d4] => { results := [.lit (.bool false)], args := [d1, d2, d3, d4] }
  | _ => none }
def FnExactRateAtWrongFalsely : Prop := fnExactRateAtRow.holds Try.pinned (OpenSpec.ofChange fnExactRateAtWrong)

/-- 'laws.FnExactTaxRulesOk': WHATEVER THE INPUT: true; the input reads as it did. -/
def fnExactTaxRulesOkSpec : ChangeSpec := { name := "fnExactTaxRulesOk", fn := fun _ => fun
  | [d] => { results := [.lit (.bool true)], args := [d] }
  | _ => none }
def fnExactTaxRulesOkRow : OpenClaim := { program := "ytegkhdobjcdfnae", sum := "eac959329bd3b8c94e3c04bbd90af6b189d7bd748d9ac60be8c39c23d50bbbc7", func := "loop.example/g00040/laws.FnExactTaxRulesOk", spec := "fnExactTaxRulesOk", apart := false }
def FnExactTaxRulesOkSaid : Prop := fnExactTaxRulesOkRow.holds Try.pinned (OpenSpec.ofChange fnExactTaxRulesOkSpec)

/-- ITS FALSE NEIGHBOUR: 'it returns false'. Refute it at one input. -/
def fnExactTaxRulesOkWrong : ChangeSpec := { name := "fnExactTaxRulesOk", fn := fun _ => fun
  | [d] => { results := [.lit (.bool false)], args := [d] }
  | _ => none }
def FnExactTaxRulesOkWrongFalsely : Prop := fnExactTaxRulesOkRow.holds Try.pinned (OpenSpec.ofChange fnExactTaxRulesOkWrong)

/-- 'laws.FnNetCovered': WHATEVER THE INPUT: true; the input reads as it did. -/
def fnNetCoveredSpec : ChangeSpec := { name := "fnNetCovered", fn := fun _ => fun
  | [d] => { results := [.lit (.bool true)], args := [d] }
  | _ => none }
def fnNetCoveredRow : OpenClaim := { program := "ytegkhdobjcdfnae", sum := "eac959329bd3b8c94e3c04bbd90af6b189d7bd748d9ac60be8c39c23d50bbbc7", func := "loop.example/g00040/laws.FnNetCovered", spec := "fnNetCovered", apart := false }
def FnNetCoveredSaid : Prop := fnNetCoveredRow.holds Try.pinned (OpenSpec.ofChange fnNetCoveredSpec)

/-- ITS FALSE NEIGHBOUR: 'it returns false'. Refute it at one input. -/
def fnNetCoveredWrong : ChangeSpec := { name := "fnNetCovered", fn := fun _ => fun
  | [d] => { results := [.lit (.bool false)], args := [d] }
  | _ => none }
def FnNetCoveredWrongFalsely : Prop := fnNetCoveredRow.holds Try.pinned (OpenSpec.ofChange fnNetCoveredWrong)

/- THE SECOND FORM. 'bulk': how many values and letters a reading holds, each counted each time it is reached (what is shared counts as often as it is met; a slice's spare places count too). A statement '..UptoSaid' is the law's where the arguments, and the package variables that the reading takes, are together of bulk at most 1048576: NARROWER than '..Said'. Prove '..Said' where nothing that the law and all that it calls make is longer than what came in: it says more and counts as full. Else prove '..UptoSaid'. A law counts once. -/
mutual
def uptoBulk {H : Type} : DataW H → Nat
  | .lit (.string bytes) => bytes.length + 1
  | .lit _ => 1
  | .nil => 1
  | .ptr d => uptoBulk d + 1
  | .slice elems spare => uptoBulkAll elems + uptoBulkAll spare + 1
  | .agg parts => uptoBulkAll parts + 1
  | .iface _ d => uptoBulk d + 1
  | .map entries => uptoBulkEntries entries + 1
  | .held _ => 1
def uptoBulkAll {H : Type} : List (DataW H) → Nat
  | [] => 0
  | d :: r => uptoBulk d + uptoBulkAll r
def uptoBulkEntries {H : Type} : List (Lit × DataW H) → Nat
  | [] => 0
  | x :: r => uptoBulkEntry x + uptoBulkEntries r
def uptoBulkEntry {H : Type} : Lit × DataW H → Nat
  | (.string bytes, d) => bytes.length + uptoBulk d + 1
  | (_, d) => uptoBulk d + 1
 end
def uptoSmall : (H : Type) → List (DataW H) → Bool := fun _ ds => decide (uptoBulkAll ds ≤ 1048576)
def OpenSpec.upto (s : _root_.Go.ChangeSpec) : _root_.Go.OpenSpec := { _root_.Go.OpenSpec.ofChange s with cond := some uptoSmall }

/-- 'laws.FnExactThingOk', WHERE WHAT IT READS IS OF BULK AT MOST 1048576: true; the input reads as it did. -/
def fnExactThingOkUptoRow : OpenClaim := { program := "ytegkhdobjcdfnae", sum := "eac959329bd3b8c94e3c04bbd90af6b189d7bd748d9ac60be8c39c23d50bbbc7", func := "loop.example/g00040/laws.FnExactThingOk", spec := "fnExactThingOk", apart := false, narrowed := true }
def FnExactThingOkUptoSaid : Prop := fnExactThingOkUptoRow.holds Try.pinned (OpenSpec.upto fnExactThingOkSpec)

/-- 'laws.FnExactRateAt', WHERE WHAT IT READS IS OF BULK AT MOST 1048576: true; the input reads as it did. -/
def fnExactRateAtUptoRow : OpenClaim := { program := "ytegkhdobjcdfnae", sum := "eac959329bd3b8c94e3c04bbd90af6b189d7bd748d9ac60be8c39c23d50bbbc7", func := "loop.example/g00040/laws.FnExactRateAt", spec := "fnExactRateAt", unfollowed := true, recurses := true, apart := false, narrowed := true }
def FnExactRateAtUptoSaid : Prop := fnExactRateAtUptoRow.holds Try.pinned (OpenSpec.upto fnExactRateAtSpec)

/-- 'laws.FnExactTaxRulesOk', WHERE WHAT IT READS IS OF BULK AT MOST 1048576: true; the input reads as it did. -/
def fnExactTaxRulesOkUptoRow : OpenClaim := { program := "ytegkhdobjcdfnae", sum := "eac959329bd3b8c94e3c04bbd90af6b189d7bd748d9ac60be8c39c23d50bbbc7", func := "loop.example/g00040/laws.FnExactTaxRulesOk", spec := "fnExactTaxRulesOk", apart := false, narrowed := true }
def FnExactTaxRulesOkUptoSaid : Prop := fnExactTaxRulesOkUptoRow.holds Try.pinned (OpenSpec.upto fnExactTaxRulesOkSpec)

/-- 'laws.FnNetCovered', WHERE WHAT IT READS IS OF BULK AT MOST 1048576: true; the input reads as it did. -/
def fnNetCoveredUptoRow : OpenClaim := { program := "ytegkhdobjcdfnae", sum := "eac959329bd3b8c94e3c04bbd90af6b189d7bd748d9ac60be8c39c23d50bbbc7", func := "loop.example/g00040/laws.FnNetCovered", spec := "fnNetCovered", apart := false, narrowed := true }
def FnNetCoveredUptoSaid : Prop := fnNetCoveredUptoRow.holds Try.pinned (OpenSpec.upto fnNetCoveredSpec)

end Rows
end Go.Proofs.Ytegkhdobjcdfnae
