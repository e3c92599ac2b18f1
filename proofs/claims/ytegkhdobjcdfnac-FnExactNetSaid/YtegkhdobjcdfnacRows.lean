/-
  No cell of these rows narrows 'for every input' (looked for: loops, veiled, ifaces, maps, wideKeys, modest, calm, conditions, laid).
  DERIVED. THE GIVEN ROWS OF THIS SEAT. 3 by the template 'for every input the law returns true; each argument reads behind the call as it read before'; 0 by the template 'total and deterministic' (their statements: YtegkhdobjcdfnacTotals.lean).
  GIVEN WITH THE SEED: the statements are not yours to turn. If you find one false, say at which input.
  Laid BY PROGRAM, IN A SANDBOX (cutbox-rows.mjs): the forced cells as the released guide's own fill.sh prints them over the translation e6134fa075202831… (all of the seat's roots in one cut). By AI agents, Wed Nov 11 2026. No macro, syntax, notation, axiom, sorry.
-/
import Derived.Test.YtegkhdobjcdfnacChecked
import GoSem.Claim
import GoSem.ClaimJoined
import GoSem.ClaimMapViews
import Derived.JoinedTies
import Derived.KernelRfl
namespace Go.Proofs.Ytegkhdobjcdfnac
/- THE CELL 'sum', in the pinned program and in every row, IS THE sha256 OF THE DUMP (.gsa) THAT YtegkhdobjcdfnacProg.lean LOADS. Nothing in Lean hashes anything: it is a label: what it is worth is what the hold of that sum in a sandbox is worth. -/
noncomputable def Try.pinned : Pinned := { name := "ytegkhdobjcdfnac", sum := "e6134fa075202831cf2882f449afb209f2aa701f3b972f7c1850b9f1d396df64", checked := Try.checked }
namespace Rows
def none {H : Type} : Left H := { results := [], args := [] }

/-- 'laws.FnExactNet': WHATEVER THE INPUT: true; the input reads as it did. -/
def fnExactNetSpec : ChangeSpec := { name := "fnExactNet", fn := fun _ => fun
  | [d1, d2, d3, d4] => { results := [.lit (.bool true)], args := [d1, d2, d3, d4] }
  | _ => none }
def fnExactNetRow : OpenClaim := { program := "ytegkhdobjcdfnac", sum := "e6134fa075202831cf2882f449afb209f2aa701f3b972f7c1850b9f1d396df64", func := "loop.example/g00040/laws.FnExactNet", spec := "fnExactNet", apart := false }
def FnExactNetSaid : Prop := fnExactNetRow.holds Try.pinned (OpenSpec.ofChange fnExactNetSpec)

/-- ITS FALSE NEIGHBOUR: 'it returns false'. Refute it at one input. -/
def fnExactNetWrong : ChangeSpec := { name := "fnExactNet", fn := fun _ => fun
  | [d1, d2, d3, d4] => { results := [.lit (.bool false)], args := [d1, d2, d3, d4] }
  | _ => none }
def FnExactNetWrongFalsely : Prop := fnExactNetRow.holds Try.pinned (OpenSpec.ofChange fnExactNetWrong)

/-- 'laws.FnExactFrameOk': WHATEVER THE INPUT: true; the input reads as it did. -/
def fnExactFrameOkSpec : ChangeSpec := { name := "fnExactFrameOk", fn := fun _ => fun
  | [d] => { results := [.lit (.bool true)], args := [d] }
  | _ => none }
def fnExactFrameOkRow : OpenClaim := { program := "ytegkhdobjcdfnac", sum := "e6134fa075202831cf2882f449afb209f2aa701f3b972f7c1850b9f1d396df64", func := "loop.example/g00040/laws.FnExactFrameOk", spec := "fnExactFrameOk", apart := false }
def FnExactFrameOkSaid : Prop := fnExactFrameOkRow.holds Try.pinned (OpenSpec.ofChange fnExactFrameOkSpec)

/-- ITS FALSE NEIGHBOUR: 'it returns false'. Refute it at one input. -/
def fnExactFrameOkWrong : ChangeSpec := { name := "fnExactFrameOk", fn := fun _ => fun
  | [d] => { results := [.lit (.bool false)], args := [d] }
  | _ => none }
def FnExactFrameOkWrongFalsely : Prop := fnExactFrameOkRow.holds Try.pinned (OpenSpec.ofChange fnExactFrameOkWrong)

/-- 'laws.FnExactLotCost': WHATEVER THE INPUT: true; the input reads as it did. -/
def fnExactLotCostSpec : ChangeSpec := { name := "fnExactLotCost", fn := fun _ => fun
  | [d1, d2, d3] => { results := [.lit (.bool true)], args := [d1, d2, d3] }
  | _ => none }
def fnExactLotCostRow : OpenClaim := { program := "ytegkhdobjcdfnac", sum := "e6134fa075202831cf2882f449afb209f2aa701f3b972f7c1850b9f1d396df64", func := "loop.example/g00040/laws.FnExactLotCost", spec := "fnExactLotCost", apart := false }
def FnExactLotCostSaid : Prop := fnExactLotCostRow.holds Try.pinned (OpenSpec.ofChange fnExactLotCostSpec)

/-- ITS FALSE NEIGHBOUR: 'it returns false'. Refute it at one input. -/
def fnExactLotCostWrong : ChangeSpec := { name := "fnExactLotCost", fn := fun _ => fun
  | [d1, d2, d3] => { results := [.lit (.bool false)], args := [d1, d2, d3] }
  | _ => none }
def FnExactLotCostWrongFalsely : Prop := fnExactLotCostRow.holds Try.pinned (OpenSpec.ofChange fnExactLotCostWrong)

/- THE SECOND FORM. 'bulk': how many values and letters a reading holds, each counted each time it is reached (what is shared counts as often as it is met; a slice's spare places count too). A statement '..UptoSaid' is the law's where the arguments, and the package variables that the reading takes, are together of bulk at most 1048576: NARROWER than '..Said'. Prove '..Said' where nothing that the law and all that it calls make is longer than what came in: it says more and counts as full. Else prove '..UptoSaid'. A law counts once. -/
mutual
def uptoBulk {H : Type} : DataW H → Nat
  | .lit (.string bytes) => bytes.length + 1
  | .lit _ => 1
  | .nil => 1
  | .ptr d => uptoBulk d + 1
  | .slice elems spare => uptoBulkAll elems + uptoBulkAll spare + 1
  | .agg parts => uptoBulkAll parts + 1
  | .iface _ d => uptoBulk d + 1
  | .map entries => uptoBulkEntries entries + 1
  | .held _ => 1
def uptoBulkAll {H : Type} : List (DataW H) → Nat
  | [] => 0
  | d :: r => uptoBulk d + uptoBulkAll r
def uptoBulkEntries {H : Type} : List (Lit × DataW H) → Nat
  | [] => 0
  | x :: r => uptoBulkEntry x + uptoBulkEntries r
def uptoBulkEntry {H : Type} : Lit × DataW H → Nat
  | (.string bytes, d) => bytes.length + uptoBulk d + 1
  | (_, d) => uptoBulk d + 1
 end
def uptoSmall : (H : Type) → List (DataW H) → Bool := fun _ ds => decide (uptoBulkAll ds ≤ 1048576)
def OpenSpec.upto (s : _root_.Go.ChangeSpec) : _root_.Go.OpenSpec := { _root_.Go.OpenSpec.ofChange s with cond := some uptoSmall }

/-- 'laws.FnExactNet', WHERE WHAT IT READS IS OF BULK AT MOST 1048576: true; the input reads as it did. -/
def fnExactNetUptoRow : OpenClaim := { program := "ytegkhdobjcdfnac", sum := "e6134fa075202831cf2882f449afb209f2aa701f3b972f7c1850b9f1d396df64", func := "loop.example/g00040/laws.FnExactNet", spec := "fnExactNet", apart := false, narrowed := true }
def FnExactNetUptoSaid : Prop := fnExactNetUptoRow.holds Try.pinned (OpenSpec.upto fnExactNetSpec)

/-- 'laws.FnExactFrameOk', WHERE WHAT IT READS IS OF BULK AT MOST 1048576: true; the input reads as it did. -/
def fnExactFrameOkUptoRow : OpenClaim := { program := "ytegkhdobjcdfnac", sum := "e6134fa075202831cf2882f449afb209f2aa701f3b972f7c1850b9f1d396df64", func := "loop.example/g00040/laws.FnExactFrameOk", spec := "fnExactFrameOk", apart := false, narrowed := true }
def FnExactFrameOkUptoSaid : Prop := fnExactFrameOkUptoRow.holds Try.pinned (OpenSpec.upto fnExactFrameOkSpec)

/-- 'laws.FnExactLotCost', WHERE WHAT IT READS IS OF BULK AT MOST 1048576: true; the input reads as it did. -/
def fnExactLotCostUptoRow : OpenClaim := { program := "ytegkhdobjcdfnac", sum := "e6134fa075202831cf2882f449afb209f2aa701f3b972f7c1850b9f1d396df64", func := "loop.example/g00040/laws.FnExactLotCost", spec := "fnExactLotCost", apart := false, narrowed := true }
def FnExactLotCostUptoSaid : Prop := fnExactLotCostUptoRow.holds Try.pinned (OpenSpec.upto fnExactLotCostSpec)

end Rows
end Go.Proofs.Ytegkhdobjcdfnac
