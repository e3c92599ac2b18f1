/-
  No cell of these rows narrows 'for every input' (looked for: loops, veiled, ifaces, maps, wideKeys, modest, calm, conditions, laid).
  DERIVED. THE GIVEN ROWS OF THIS SEAT. 4 by the template 'for every input the law returns true; each argument reads behind the call as it read before'; 0 by the template 'total and deterministic' (their statements: YtegkhdobjcdfnabTotals.lean).
  GIVEN WITH THE SEED: the statements are not yours to turn. If you find one false, say at which input.
  Laid BY PROGRAM, IN A SANDBOX (cutbox-rows.mjs): the forced cells as the released guide's own fill.sh prints them over the translation 63441f399036752d… (all of the seat's roots in one cut). By AI agents, Wed Nov 11 2026. No macro, syntax, notation, axiom, sorry.
-/
import Derived.Test.YtegkhdobjcdfnabChecked
import GoSem.Claim
import GoSem.ClaimJoined
import GoSem.ClaimMapViews
import Derived.JoinedTies
import Derived.KernelRfl
namespace Go.Proofs.Ytegkhdobjcdfnab
/- THE CELL 'sum', in the pinned program and in every row, IS THE sha256 OF THE DUMP (.gsa) THAT YtegkhdobjcdfnabProg.lean LOADS. Nothing in Lean hashes anything: it is a label: what it is worth is what the hold of that sum in a sandbox is worth. -/
noncomputable def Try.pinned : Pinned := { name := "ytegkhdobjcdfnab", sum := "63441f399036752daef1e76542f59a85bd387ac576242136aee9c96296c63825", checked := Try.checked }
namespace Rows
def none {H : Type} : Left H := { results := [], args := [] }

/-- 'laws.FnProposed': WHATEVER THE INPUT: true; the input reads as it did. -/
def fnProposedSpec : ChangeSpec := { name := "fnProposed", fn := fun _ => fun
  | [d] => { results := [.lit (.bool true)], args := [d] }
  | _ => none }
def fnProposedRow : OpenClaim := { program := "ytegkhdobjcdfnab", sum := "63441f399036752daef1e76542f59a85bd387ac576242136aee9c96296c63825", func := "loop.example/g00040/laws.FnProposed", spec := "fnProposed", unfollowed := true, recurses := true, apart := false }
def FnProposedSaid : Prop := fnProposedRow.holds Try.pinned (OpenSpec.ofChange fnProposedSpec)

/-- ITS FALSE NEIGHBOUR: 'it returns false'. Refute it at one input. -/
def fnProposedWrong : ChangeSpec := { name := "fnProposed", fn := fun _ => fun
  | [d] => { results := [.lit (.bool false)], args := [d] }
  | _ => none }
def FnProposedWrongFalsely : Prop := fnProposedRow.holds Try.pinned (OpenSpec.ofChange fnProposedWrong)

/-- 'laws.FnExactRatesOk': WHATEVER THE INPUT: true; the input reads as it did. -/
def fnExactRatesOkSpec : ChangeSpec := { name := "fnExactRatesOk", fn := fun _ => fun
  | [d1, d2] => { results := [.lit (.bool true)], args := [d1, d2] }
  | _ => none }
def fnExactRatesOkRow : OpenClaim := { program := "ytegkhdobjcdfnab", sum := "63441f399036752daef1e76542f59a85bd387ac576242136aee9c96296c63825", func := "loop.example/g00040/laws.FnExactRatesOk", spec := "fnExactRatesOk", apart := false }
def FnExactRatesOkSaid : Prop := fnExactRatesOkRow.holds Try.pinned (OpenSpec.ofChange fnExactRatesOkSpec)

/-- ITS FALSE NEIGHBOUR: 'it returns false'. Refute it at one input. -/
def fnExactRatesOkWrong : ChangeSpec := { name := "fnExactRatesOk", fn := fun _ => fun
  | [d1, d2] => { results := [.lit (.bool false)], args := [d1, d2] }
  | _ => none }
def FnExactRatesOkWrongFalsely : Prop := fnExactRatesOkRow.holds Try.pinned (OpenSpec.ofChange fnExactRatesOkWrong)

/-- 'laws.FnExactMakeNumber': WHATEVER THE INPUT: true; the input reads as it did. -/
def fnExactMakeNumberSpec : ChangeSpec := { name := "fnExactMakeNumber", fn := fun _ => fun
  | [d1, d2] => { results := [.lit (.bool true)], args := [d1, d2] }
  | _ => none }
def fnExactMakeNumberRow : OpenClaim := { program := "ytegkhdobjcdfnab", sum := "63441f399036752daef1e76542f59a85bd387ac576242136aee9c96296c63825", func := "loop.example/g00040/laws.FnExactMakeNumber", spec := "fnExactMakeNumber", recurses := true, apart := false }
def FnExactMakeNumberSaid : Prop := fnExactMakeNumberRow.holds Try.pinned (OpenSpec.ofChange fnExactMakeNumberSpec)

/-- ITS FALSE NEIGHBOUR: 'it returns false'. Refute it at one input. -/
def fnExactMakeNumberWrong : ChangeSpec := { name := "fnExactMakeNumber", fn := fun _ => fun
  | [d1, d2] => { results := [.lit (.bool false)], args := [d1, d2] }
  | _ => none }
def FnExactMakeNumberWrongFalsely : Prop := fnExactMakeNumberRow.holds Try.pinned (OpenSpec.ofChange fnExactMakeNumberWrong)

/-- 'laws.FnExactLadderRate': WHATEVER THE INPUT: true; the input reads as it did. -/
def fnExactLadderRateSpec : ChangeSpec := { name := "fnExactLadderRate", fn := fun _ => fun
  | [d1, d2] => { results := [.lit (.bool true)], args := [d1, d2] }
  | _ => none }
def fnExactLadderRateRow : OpenClaim := { program := "ytegkhdobjcdfnab", sum := "63441f399036752daef1e76542f59a85bd387ac576242136aee9c96296c63825", func := "loop.example/g00040/laws.FnExactLadderRate", spec := "fnExactLadderRate", apart := false }
def FnExactLadderRateSaid : Prop := fnExactLadderRateRow.holds Try.pinned (OpenSpec.ofChange fnExactLadderRateSpec)

/-- ITS FALSE NEIGHBOUR: 'it returns false'. Refute it at one input. -/
def fnExactLadderRateWrong : ChangeSpec := { name := "fnExactLadderRate", fn := fun _ => fun
  | [d1, d2] => { results := [.lit (.bool false)], args := [d1, d2] }
  | _ => none }
def FnExactLadderRateWrongFalsely : Prop := fnExactLadderRateRow.holds Try.pinned (OpenSpec.ofChange fnExactLadderRateWrong)

/- THE SECOND FORM. 'bulk': how many values and letters a reading holds, each counted each time it is reached (what is shared counts as often as it is met; a slice's spare places count too). A statement '..UptoSaid' is the law's where the arguments, and the package variables that the reading takes, are together of bulk at most 1048576: NARROWER than '..Said'. Prove '..Said' where nothing that the law and all that it calls make is longer than what came in: it says more and counts as full. Else prove '..UptoSaid'. A law counts once. -/
mutual
def uptoBulk {H : Type} : DataW H → Nat
  | .lit (.string bytes) => bytes.length + 1
  | .lit _ => 1
  | .nil => 1
  | .ptr d => uptoBulk d + 1
  | .slice elems spare => uptoBulkAll elems + uptoBulkAll spare + 1
  | .agg parts => uptoBulkAll parts + 1
  | .iface _ d => uptoBulk d + 1
  | .map entries => uptoBulkEntries entries + 1
  | .held _ => 1
def uptoBulkAll {H : Type} : List (DataW H) → Nat
  | [] => 0
  | d :: r => uptoBulk d + uptoBulkAll r
def uptoBulkEntries {H : Type} : List (Lit × DataW H) → Nat
  | [] => 0
  | x :: r => uptoBulkEntry x + uptoBulkEntries r
def uptoBulkEntry {H : Type} : Lit × DataW H → Nat
  | (.string bytes, d) => bytes.length + uptoBulk d + 1
  | (_, d) => uptoBulk d + 1
 end
def uptoSmall : (H : Type) → List (DataW H) → Bool := fun _ ds => decide (uptoBulkAll ds ≤ 1048576)
def OpenSpec.upto (s : _root_.Go.ChangeSpec) : _root_.Go.OpenSpec := { _root_.Go.OpenSpec.ofChange s with cond := some uptoSmall }

/-- 'laws.FnProposed', WHERE WHAT IT READS IS OF BULK AT MOST 1048576: true; the input reads as it did. -/
def fnProposedUptoRow : OpenClaim := { program := "ytegkhdobjcdfnab", sum := "63441f399036752daef1e76542f59a85bd387ac576242136aee9c96296c63825", func := "loop.example/g00040/laws.FnProposed", spec := "fnProposed", unfollowed := true, recurses := true, apart := false, narrowed := true }
def FnProposedUptoSaid : Prop := fnProposedUptoRow.holds Try.pinned (OpenSpec.upto fnProposedSpec)

/-- 'laws.FnExactRatesOk', WHERE WHAT IT READS IS OF BULK AT MOST 1048576: true; the input reads as it did. -/
def fnExactRatesOkUptoRow : OpenClaim := { program := "ytegkhdobjcdfnab", sum := "63441f399036752daef1e76542f59a85bd387ac576242136aee9c96296c63825", func := "loop.example/g00040/laws.FnExactRatesOk", spec := "fnExactRatesOk", apart := false, narrowed := true }
def FnExactRatesOkUptoSaid : Prop := fnExactRatesOkUptoRow.holds Try.pinned (OpenSpec.upto fnExactRatesOkSpec)

/-- 'laws.FnExactMakeNumber', WHERE WHAT IT READS IS OF BULK AT MOST 1048576: true; the input reads as it did. -/
def fnExactMakeNumberUptoRow : OpenClaim := { program := "ytegkhdobjcdfnab", sum := "63441f399036752daef1e76542f59a85bd387ac576242136aee9c96296c63825", func := "loop.example/g00040/laws.FnExactMakeNumber", spec := "fnExactMakeNumber", recurses := true, apart := false, narrowed := true }
def FnExactMakeNumberUptoSaid : Prop := fnExactMakeNumberUptoRow.holds Try.pinned (OpenSpec.upto fnExactMakeNumberSpec)

/-- 'laws.FnExactLadderRate', WHERE WHAT IT READS IS OF BULK AT MOST 1048576: true; the input reads as it did. -/
def fnExactLadderRateUptoRow : OpenClaim := { program := "ytegkhdobjcdfnab", sum := "63441f399036752daef1e76542f59a85bd387ac576242136aee9c96296c63825", func := "loop.example/g00040/laws.FnExactLadderRate", spec := "fnExactLadderRate", apart := false, narrowed := true }
def FnExactLadderRateUptoSaid : Prop := fnExactLadderRateUptoRow.holds Try.pinned (OpenSpec.upto fnExactLadderRateSpec)

end Rows
end Go.Proofs.Ytegkhdobjcdfnab
