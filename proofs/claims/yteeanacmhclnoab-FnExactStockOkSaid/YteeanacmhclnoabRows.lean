/-
  No cell of these rows narrows 'for every input' (looked for: loops, veiled, ifaces, maps, wideKeys, modest, calm, conditions, laid).
  DERIVED. THE GIVEN ROWS OF THIS SEAT. 6 by the template 'for every input the law returns true; each argument reads behind the call as it read before'; 0 by the template 'total and deterministic' (their statements: YteeanacmhclnoabTotals.lean).
  GIVEN WITH THE SEED: the statements are not yours to turn. If you find one false, say at which input.
  Laid BY PROGRAM, IN A SANDBOX (cutbox-rows.mjs): the forced cells as the released guide's own fill.sh prints them over the translation 3a06f31bc56781bd… (all of the seat's roots in one cut). By AI agents, Wed Nov 11 2026. No macro, syntax, notation, axiom, sorry.
-/
import Derived.Test.YteeanacmhclnoabChecked
import GoSem.Claim
import GoSem.ClaimJoined
import GoSem.ClaimMapViews
import Derived.JoinedTies
import Derived.KernelRfl
namespace Go.Proofs.Yteeanacmhclnoab
/- THE CELL 'sum', in the pinned program and in every row, IS THE sha256 OF THE DUMP (.gsa) THAT YteeanacmhclnoabProg.lean LOADS. Nothing in Lean hashes anything: it is a label: what it is worth is what the hold of that sum in a sandbox is worth. -/
noncomputable def Try.pinned : Pinned := { name := "yteeanacmhclnoab", sum := "3a06f31bc56781bdb91eb28388b2b2242c46e05198195ae6c9305f4d1e12ac26", checked := Try.checked }
namespace Rows
def none {H : Type} : Left H := { results := [], args := [] }

/-- 'laws.FnExactShowChart': WHATEVER THE INPUT: true; the input reads as it did. -/
def fnExactShowChartSpec : ChangeSpec := { name := "fnExactShowChart", fn := fun _ => fun
  | [d] => { results := [.lit (.bool true)], args := [d] }
  | _ => none }
def fnExactShowChartRow : OpenClaim := { program := "yteeanacmhclnoab", sum := "3a06f31bc56781bdb91eb28388b2b2242c46e05198195ae6c9305f4d1e12ac26", func := "loop.example/g00040/laws.FnExactShowChart", spec := "fnExactShowChart", plainKeys := false, apart := false }
def FnExactShowChartSaid : Prop := fnExactShowChartRow.holds Try.pinned (OpenSpec.ofChange fnExactShowChartSpec)

/-- ITS FALSE NEIGHBOUR: 'it returns false'. Refute it at one input. -/
def fnExactShowChartWrong : ChangeSpec := { name := "fnExactShowChart", fn := fun _ => fun
  | [d] => { results := [.lit (.bool false)], args := [d] }
  | _ => none }
def FnExactShowChartWrongFalsely : Prop := fnExactShowChartRow.holds Try.pinned (OpenSpec.ofChange fnExactShowChartWrong)

/-- 'laws.FnExactChartOk': WHATEVER THE INPUT: true; the input reads as it did. -/
def fnExactChartOkSpec : ChangeSpec := { name := "fnExactChartOk", fn := fun _ => fun
  | [d] => { results := [.lit (.bool true)], args := [d] }
  | _ => none }
def fnExactChartOkRow : OpenClaim := { program := "yteeanacmhclnoab", sum := "3a06f31bc56781bdb91eb28388b2b2242c46e05198195ae6c9305f4d1e12ac26", func := "loop.example/g00040/laws.FnExactChartOk", spec := "fnExactChartOk", plainKeys := false, apart := false }
def FnExactChartOkSaid : Prop := fnExactChartOkRow.holds Try.pinned (OpenSpec.ofChange fnExactChartOkSpec)

/-- ITS FALSE NEIGHBOUR: 'it returns false'. Refute it at one input. -/
def fnExactChartOkWrong : ChangeSpec := { name := "fnExactChartOk", fn := fun _ => fun
  | [d] => { results := [.lit (.bool false)], args := [d] }
  | _ => none }
def FnExactChartOkWrongFalsely : Prop := fnExactChartOkRow.holds Try.pinned (OpenSpec.ofChange fnExactChartOkWrong)

/-- 'laws.FnExactLeaf': WHATEVER THE INPUT: true; the input reads as it did. -/
def fnExactLeafSpec : ChangeSpec := { name := "fnExactLeaf", fn := fun _ => fun
  | [d1, d2] => { results := [.lit (.bool true)], args := [d1, d2] }
  | _ => none }
def fnExactLeafRow : OpenClaim := { program := "yteeanacmhclnoab", sum := "3a06f31bc56781bdb91eb28388b2b2242c46e05198195ae6c9305f4d1e12ac26", func := "loop.example/g00040/laws.FnExactLeaf", spec := "fnExactLeaf", plainKeys := false, apart := false }
def FnExactLeafSaid : Prop := fnExactLeafRow.holds Try.pinned (OpenSpec.ofChange fnExactLeafSpec)

/-- ITS FALSE NEIGHBOUR: 'it returns false'. Refute it at one input. -/
def fnExactLeafWrong : ChangeSpec := { name := "fnExactLeaf", fn := fun _ => fun
  | [d1, d2] => { results := [.lit (.bool false)], args := [d1, d2] }
  | _ => none }
def FnExactLeafWrongFalsely : Prop := fnExactLeafRow.holds Try.pinned (OpenSpec.ofChange fnExactLeafWrong)

/-- 'laws.FnExactFindAccount': WHATEVER THE INPUT: true; the input reads as it did. -/
def fnExactFindAccountSpec : ChangeSpec := { name := "fnExactFindAccount", fn := fun _ => fun
  | [d1, d2] => { results := [.lit (.bool true)], args := [d1, d2] }
  | _ => none }
def fnExactFindAccountRow : OpenClaim := { program := "yteeanacmhclnoab", sum := "3a06f31bc56781bdb91eb28388b2b2242c46e05198195ae6c9305f4d1e12ac26", func := "loop.example/g00040/laws.FnExactFindAccount", spec := "fnExactFindAccount", plainKeys := false, apart := false }
def FnExactFindAccountSaid : Prop := fnExactFindAccountRow.holds Try.pinned (OpenSpec.ofChange fnExactFindAccountSpec)

/-- ITS FALSE NEIGHBOUR: 'it returns false'. Refute it at one input. -/
def fnExactFindAccountWrong : ChangeSpec := { name := "fnExactFindAccount", fn := fun _ => fun
  | [d1, d2] => { results := [.lit (.bool false)], args := [d1, d2] }
  | _ => none }
def FnExactFindAccountWrongFalsely : Prop := fnExactFindAccountRow.holds Try.pinned (OpenSpec.ofChange fnExactFindAccountWrong)

/-- 'laws.FnExactStockOk': WHATEVER THE INPUT: true; the input reads as it did. -/
def fnExactStockOkSpec : ChangeSpec := { name := "fnExactStockOk", fn := fun _ => fun
  | [d] => { results := [.lit (.bool true)], args := [d] }
  | _ => none }
def fnExactStockOkRow : OpenClaim := { program := "yteeanacmhclnoab", sum := "3a06f31bc56781bdb91eb28388b2b2242c46e05198195ae6c9305f4d1e12ac26", func := "loop.example/g00040/laws.FnExactStockOk", spec := "fnExactStockOk", plainKeys := false, apart := false }
def FnExactStockOkSaid : Prop := fnExactStockOkRow.holds Try.pinned (OpenSpec.ofChange fnExactStockOkSpec)

/-- ITS FALSE NEIGHBOUR: 'it returns false'. Refute it at one input. -/
def fnExactStockOkWrong : ChangeSpec := { name := "fnExactStockOk", fn := fun _ => fun
  | [d] => { results := [.lit (.bool false)], args := [d] }
  | _ => none }
def FnExactStockOkWrongFalsely : Prop := fnExactStockOkRow.holds Try.pinned (OpenSpec.ofChange fnExactStockOkWrong)

/-- 'laws.FnExactRateAt': WHATEVER THE INPUT: true; the input reads as it did. -/
def fnExactRateAtSpec : ChangeSpec := { name := "fnExactRateAt", fn := fun _ => fun
  | [d1, d2, d3, d4] => { results := [.lit (.bool true)], args := [d1, d2, d3, d4] }
  | _ => none }
def fnExactRateAtRow : OpenClaim := { program := "yteeanacmhclnoab", sum := "3a06f31bc56781bdb91eb28388b2b2242c46e05198195ae6c9305f4d1e12ac26", func := "loop.example/g00040/laws.FnExactRateAt", spec := "fnExactRateAt", unfollowed := true, recurses := true, plainKeys := false, apart := false }
def FnExactRateAtSaid : Prop := fnExactRateAtRow.holds Try.pinned (OpenSpec.ofChange fnExactRateAtSpec)

/-- ITS FALSE NEIGHBOUR: 'it returns false'. Refute it at one input. -/
def fnExactRateAtWrong : ChangeSpec := { name := "fnExactRateAt", fn := fun _ => fun
  | [d1, d2, d3, d4] => { results := [.lit (.bool false)], args := [d1, d2, d3, d4] }
  | _ => none }
def FnExactRateAtWrongFalsely : Prop := fnExactRateAtRow.holds Try.pinned (OpenSpec.ofChange fnExactRateAtWrong)

/- THE SECOND FORM. 'bulk': how many values and letters a reading holds, each counted each time it is reached (what is shared counts as often as it is met; a slice's spare places count too). A statement '..UptoSaid' is the law's where the arguments, and the package variables that the reading takes, are together of bulk at most 1048576: NARROWER than '..Said'. Prove '..Said' where nothing that the law and all that it calls make is longer than what came in: it says more and counts as full. Else prove '..UptoSaid'. A law counts once. -/
mutual
def uptoBulk {H : Type} : DataW H → Nat
  | .lit (.string bytes) => bytes.length + 1
  | .lit _ => 1
  | .nil => 1
  | .ptr d => uptoBulk d + 1
  | .slice elems spare => uptoBulkAll elems + uptoBulkAll spare + 1
  | .agg parts => uptoBulkAll parts + 1
  | .iface _ d => uptoBulk d + 1
  | .map entries => uptoBulkEntries entries + 1
  | .held _ => 1
def uptoBulkAll {H : Type} : List (DataW H) → Nat
  | [] => 0
  | d :: r => uptoBulk d + uptoBulkAll r
def uptoBulkEntries {H : Type} : List (Lit × DataW H) → Nat
  | [] => 0
  | x :: r => uptoBulkEntry x + uptoBulkEntries r
def uptoBulkEntry {H : Type} : Lit × DataW H → Nat
  | (.string bytes, d) => bytes.length + uptoBulk d + 1
  | (_, d) => uptoBulk d + 1
 end
def uptoSmall : (H : Type) → List (DataW H) → Bool := fun _ ds => decide (uptoBulkAll ds ≤ 1048576)
def OpenSpec.upto (s : _root_.Go.ChangeSpec) : _root_.Go.OpenSpec := { _root_.Go.OpenSpec.ofChange s with cond := some uptoSmall }

/-- 'laws.FnExactShowChart', WHERE WHAT IT READS IS OF BULK AT MOST 1048576: true; the input reads as it did. -/
def fnExactShowChartUptoRow : OpenClaim := { program := "yteeanacmhclnoab", sum := "3a06f31bc56781bdb91eb28388b2b2242c46e05198195ae6c9305f4d1e12ac26", func := "loop.example/g00040/laws.FnExactShowChart", spec := "fnExactShowChart", plainKeys := false, apart := false, narrowed := true }
def FnExactShowChartUptoSaid : Prop := fnExactShowChartUptoRow.holds Try.pinned (OpenSpec.upto fnExactShowChartSpec)

/-- 'laws.FnExactChartOk', WHERE WHAT IT READS IS OF BULK AT MOST 1048576: true; the input reads as it did. -/
def fnExactChartOkUptoRow : OpenClaim := { program := "yteeanacmhclnoab", sum := "3a06f31bc56781bdb91eb28388b2b2242c46e05198195ae6c9305f4d1e12ac26", func := "loop.example/g00040/laws.FnExactChartOk", spec := "fnExactChartOk", plainKeys := false, apart := false, narrowed := true }
def FnExactChartOkUptoSaid : Prop := fnExactChartOkUptoRow.holds Try.pinned (OpenSpec.upto fnExactChartOkSpec)

/-- 'laws.FnExactLeaf', WHERE WHAT IT READS IS OF BULK AT MOST 1048576: true; the input reads as it did. -/
def fnExactLeafUptoRow : OpenClaim := { program := "yteeanacmhclnoab", sum := "3a06f31bc56781bdb91eb28388b2b2242c46e05198195ae6c9305f4d1e12ac26", func := "loop.example/g00040/laws.FnExactLeaf", spec := "fnExactLeaf", plainKeys := false, apart := false, narrowed := true }
def FnExactLeafUptoSaid : Prop := fnExactLeafUptoRow.holds Try.pinned (OpenSpec.upto fnExactLeafSpec)

/-- 'laws.FnExactFindAccount', WHERE WHAT IT READS IS OF BULK AT MOST 1048576: true; the input reads as it did. -/
def fnExactFindAccountUptoRow : OpenClaim := { program := "yteeanacmhclnoab", sum := "3a06f31bc56781bdb91eb28388b2b2242c46e05198195ae6c9305f4d1e12ac26", func := "loop.example/g00040/laws.FnExactFindAccount", spec := "fnExactFindAccount", plainKeys := false, apart := false, narrowed := true }
def FnExactFindAccountUptoSaid : Prop := fnExactFindAccountUptoRow.holds Try.pinned (OpenSpec.upto fnExactFindAccountSpec)

/-- 'laws.FnExactStockOk', WHERE WHAT IT READS IS OF BULK AT MOST 1048576: true; the input reads as it did. -/
def fnExactStockOkUptoRow : OpenClaim := { program := "yteeanacmhclnoab", sum := "3a06f31bc56781bdb91eb28388b2b2242c46e05198195ae6c9305f4d1e12ac26", func := "loop.example/g00040/laws.FnExactStockOk", spec := "fnExactStockOk", plainKeys := false, apart := false, narrowed := true }
def FnExactStockOkUptoSaid : Prop := fnExactStockOkUptoRow.holds Try.pinned (OpenSpec.upto fnExactStockOkSpec)

/-- 'laws.FnExactRateAt', WHERE WHAT IT READS IS OF BULK AT MOST 1048576: true; the input reads as it did. -/
def fnExactRateAtUptoRow : OpenClaim := { program := "yteeanacmhclnoab", sum := "3a06f31bc56781bdb91eb28388b2b2242c46e05198195ae6c9305f4d1e12ac26", func := "loop.example/g00040/laws.FnExactRateAt", spec := "fnExactRateAt", unfollowed := true, recurses := true, plainKeys := false, apart := false, narrowed := true }
def FnExactRateAtUptoSaid : Prop := fnExactRateAtUptoRow.holds Try.pinned (OpenSpec.upto fnExactRateAtSpec)

end Rows
end Go.Proofs.Yteeanacmhclnoab
