/-
  No cell of these rows narrows 'for every input' (looked for: loops, veiled, ifaces, maps, wideKeys, modest, calm, conditions, laid).
  DERIVED. THE GIVEN ROWS OF THIS SEAT. 4 by the template 'for every input the law returns true; each argument reads behind the call as it read before'; 0 by the template 'total and deterministic' (their statements: YtegkhdobjcdfnaaTotals.lean).
  GIVEN WITH THE SEED: the statements are not yours to turn. If you find one false, say at which input.
  Laid BY PROGRAM, IN A SANDBOX (cutbox-rows.mjs): the forced cells as the released guide's own fill.sh prints them over the translation a334636a627d74ee… (all of the seat's roots in one cut). By AI agents, Wed Nov 11 2026. No macro, syntax, notation, axiom, sorry.
-/
import Derived.Test.YtegkhdobjcdfnaaChecked
import GoSem.Claim
import GoSem.ClaimJoined
import GoSem.ClaimMapViews
import Derived.JoinedTies
import Derived.KernelRfl
namespace Go.Proofs.Ytegkhdobjcdfnaa
/- THE CELL 'sum', in the pinned program and in every row, IS THE sha256 OF THE DUMP (.gsa) THAT YtegkhdobjcdfnaaProg.lean LOADS. Nothing in Lean hashes anything: it is a label: what it is worth is what the hold of that sum in a sandbox is worth. -/
noncomputable def Try.pinned : Pinned := { name := "ytegkhdobjcdfnaa", sum := "a334636a627d74eec9ff3e9d44ec497e94a3dc4c0f56882d4e21939ef110f668", checked := Try.checked }
namespace Rows
def none {H : Type} : Left H := { results := [], args := [] }

/-- 'laws.FnExactShowChart': WHATEVER THE INPUT: true; the input reads as it did. -/
def fnExactShowChartSpec : ChangeSpec := { name := "fnExactShowChart", fn := fun _ => fun
  | [d] => { results := [.lit (.bool true)], args := [d] }
  | _ => none }
def fnExactShowChartRow : OpenClaim := { program := "ytegkhdobjcdfnaa", sum := "a334636a627d74eec9ff3e9d44ec497e94a3dc4c0f56882d4e21939ef110f668", func := "loop.example/g00040/laws.FnExactShowChart", spec := "fnExactShowChart", apart := false }
def FnExactShowChartSaid : Prop := fnExactShowChartRow.holds Try.pinned (OpenSpec.ofChange fnExactShowChartSpec)

/-- ITS FALSE NEIGHBOUR: 'it returns false'. Refute it at one input. -/
def fnExactShowChartWrong : ChangeSpec := { name := "fnExactShowChart", fn := fun _ => fun
  | [d] => { results := [.lit (.bool false)], args := [d] }
  | _ => none }
def FnExactShowChartWrongFalsely : Prop := fnExactShowChartRow.holds Try.pinned (OpenSpec.ofChange fnExactShowChartWrong)

/-- 'laws.FnExactShowMoney': WHATEVER THE INPUT: true; the input reads as it did. -/
def fnExactShowMoneySpec : ChangeSpec := { name := "fnExactShowMoney", fn := fun _ => fun
  | [d1, d2] => { results := [.lit (.bool true)], args := [d1, d2] }
  | _ => none }
def fnExactShowMoneyRow : OpenClaim := { program := "ytegkhdobjcdfnaa", sum := "a334636a627d74eec9ff3e9d44ec497e94a3dc4c0f56882d4e21939ef110f668", func := "loop.example/g00040/laws.FnExactShowMoney", spec := "fnExactShowMoney", recurses := true, apart := false }
def FnExactShowMoneySaid : Prop := fnExactShowMoneyRow.holds Try.pinned (OpenSpec.ofChange fnExactShowMoneySpec)

/-- ITS FALSE NEIGHBOUR: 'it returns false'. Refute it at one input. -/
def fnExactShowMoneyWrong : ChangeSpec := { name := "fnExactShowMoney", fn := fun _ => fun
  | [d1, d2] => { results := [.lit (.bool false)], args := [d1, d2] }
  | _ => none }
def FnExactShowMoneyWrongFalsely : Prop := fnExactShowMoneyRow.holds Try.pinned (OpenSpec.ofChange fnExactShowMoneyWrong)

/-- 'laws.FnExactCalOk': WHATEVER THE INPUT: true; the input reads as it did. -/
def fnExactCalOkSpec : ChangeSpec := { name := "fnExactCalOk", fn := fun _ => fun
  | [d] => { results := [.lit (.bool true)], args := [d] }
  | _ => none }
def fnExactCalOkRow : OpenClaim := { program := "ytegkhdobjcdfnaa", sum := "a334636a627d74eec9ff3e9d44ec497e94a3dc4c0f56882d4e21939ef110f668", func := "loop.example/g00040/laws.FnExactCalOk", spec := "fnExactCalOk", apart := false }
def FnExactCalOkSaid : Prop := fnExactCalOkRow.holds Try.pinned (OpenSpec.ofChange fnExactCalOkSpec)

/-- ITS FALSE NEIGHBOUR: 'it returns false'. Refute it at one input. -/
def fnExactCalOkWrong : ChangeSpec := { name := "fnExactCalOk", fn := fun _ => fun
  | [d] => { results := [.lit (.bool false)], args := [d] }
  | _ => none }
def FnExactCalOkWrongFalsely : Prop := fnExactCalOkRow.holds Try.pinned (OpenSpec.ofChange fnExactCalOkWrong)

/-- 'laws.FnExactOccupy': WHATEVER THE INPUT: true; the input reads as it did. -/
def fnExactOccupySpec : ChangeSpec := { name := "fnExactOccupy", fn := fun _ => fun
  | [d1, d2, d3] => { results := [.lit (.bool true)], args := [d1, d2, d3] }
  | _ => none }
def fnExactOccupyRow : OpenClaim := { program := "ytegkhdobjcdfnaa", sum := "a334636a627d74eec9ff3e9d44ec497e94a3dc4c0f56882d4e21939ef110f668", func := "loop.example/g00040/laws.FnExactOccupy", spec := "fnExactOccupy", unfollowed := true, recurses := true, apart := false }
def FnExactOccupySaid : Prop := fnExactOccupyRow.holds Try.pinned (OpenSpec.ofChange fnExactOccupySpec)

/-- ITS FALSE NEIGHBOUR: 'it returns false'. Refute it at one input. -/
def fnExactOccupyWrong : ChangeSpec := { name := "fnExactOccupy", fn := fun _ => fun
  | [d1, d2, d3] => { results := [.lit (.bool false)], args := [d1, d2, d3] }
  | _ => none }
def FnExactOccupyWrongFalsely : Prop := fnExactOccupyRow.holds Try.pinned (OpenSpec.ofChange fnExactOccupyWrong)

/- THE SECOND FORM. 'bulk': how many values and letters a reading holds, each counted each time it is reached (what is shared counts as often as it is met; a slice's spare places count too). A statement '..UptoSaid' is the law's where the arguments, and the package variables that the reading takes, are together of bulk at most 1048576: NARROWER than '..Said'. Prove '..Said' where nothing that the law and all that it calls make is longer than what came in: it says more and counts as full. Else prove '..UptoSaid'. A law counts once. -/
mutual
def uptoBulk {H : Type} : DataW H → Nat
  | .lit (.string bytes) => bytes.length + 1
  | .lit _ => 1
  | .nil => 1
  | .ptr d => uptoBulk d + 1
  | .slice elems spare => uptoBulkAll elems + uptoBulkAll spare + 1
  | .agg parts => uptoBulkAll parts + 1
  | .iface _ d => uptoBulk d + 1
  | .map entries => uptoBulkEntries entries + 1
  | .held _ => 1
def uptoBulkAll {H : Type} : List (DataW H) → Nat
  | [] => 0
  | d :: r => uptoBulk d + uptoBulkAll r
def uptoBulkEntries {H : Type} : List (Lit × DataW H) → Nat
  | [] => 0
  | x :: r => uptoBulkEntry x + uptoBulkEntries r
def uptoBulkEntry {H : Type} : Lit × DataW H → Nat
  | (.string bytes, d) => bytes.length + uptoBulk d + 1
  | (_, d) => uptoBulk d + 1
 end
def uptoSmall : (H : Type) → List (DataW H) → Bool := fun _ ds => decide (uptoBulkAll ds ≤ 1048576)
def OpenSpec.upto (s : _root_.Go.ChangeSpec) : _root_.Go.OpenSpec := { _root_.Go.OpenSpec.ofChange s with cond := some uptoSmall }

/-- 'laws.FnExactShowChart', WHERE WHAT IT READS IS OF BULK AT MOST 1048576: true; the input reads as it did. -/
def fnExactShowChartUptoRow : OpenClaim := { program := "ytegkhdobjcdfnaa", sum := "a334636a627d74eec9ff3e9d44ec497e94a3dc4c0f56882d4e21939ef110f668", func := "loop.example/g00040/laws.FnExactShowChart", spec := "fnExactShowChart", apart := false, narrowed := true }
def FnExactShowChartUptoSaid : Prop := fnExactShowChartUptoRow.holds Try.pinned (OpenSpec.upto fnExactShowChartSpec)

/-- 'laws.FnExactShowMoney', WHERE WHAT IT READS IS OF BULK AT MOST 1048576: true; the input reads as it did. -/
def fnExactShowMoneyUptoRow : OpenClaim := { program := "ytegkhdobjcdfnaa", sum := "a334636a627d74eec9ff3e9d44ec497e94a3dc4c0f56882d4e21939ef110f668", func := "loop.example/g00040/laws.FnExactShowMoney", spec := "fnExactShowMoney", recurses := true, apart := false, narrowed := true }
def FnExactShowMoneyUptoSaid : Prop := fnExactShowMoneyUptoRow.holds Try.pinned (OpenSpec.upto fnExactShowMoneySpec)

/-- 'laws.FnExactCalOk', WHERE WHAT IT READS IS OF BULK AT MOST 1048576: true; the input reads as it did. -/
def fnExactCalOkUptoRow : OpenClaim := { program := "ytegkhdobjcdfnaa", sum := "a334636a627d74eec9ff3e9d44ec497e94a3dc4c0f56882d4e21939ef110f668", func := "loop.example/g00040/laws.FnExactCalOk", spec := "fnExactCalOk", apart := false, narrowed := true }
def FnExactCalOkUptoSaid : Prop := fnExactCalOkUptoRow.holds Try.pinned (OpenSpec.upto fnExactCalOkSpec)

/-- 'laws.FnExactOccupy', WHERE WHAT IT READS IS OF BULK AT MOST 1048576: true; the input reads as it did. -/
def fnExactOccupyUptoRow : OpenClaim := { program := "ytegkhdobjcdfnaa", sum := "a334636a627d74eec9ff3e9d44ec497e94a3dc4c0f56882d4e21939ef110f668", func := "loop.example/g00040/laws.FnExactOccupy", spec := "fnExactOccupy", unfollowed := true, recurses := true, apart := false, narrowed := true }
def FnExactOccupyUptoSaid : Prop := fnExactOccupyUptoRow.holds Try.pinned (OpenSpec.upto fnExactOccupySpec)

end Rows
end Go.Proofs.Ytegkhdobjcdfnaa
