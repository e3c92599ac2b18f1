/-
  NARROWER THAN 'FOR EVERY INPUT', by the rows' own cells (each row's printed sentence says how): FnExactMonthEnd: laid · FnExactAddMonths: laid · FnDatesBack: laid · FnExactCompanyFrame: laid.
  DERIVED. THE GIVEN ROWS OF THIS SEAT. 4 by the template 'for every input the law returns true; each argument reads behind the call as it read before'; 0 by the template 'total and deterministic' (their statements: YteeanacmhclnoaaDoorTotals.lean).
  GIVEN WITH THE SEED: the statements are not yours to turn. If you find one false, say at which input.
  Laid BY PROGRAM, IN A SANDBOX (cutbox-rows.mjs): the forced cells as the released guide's own fill.sh prints them over the translation 0745ec1fafe0701c… (all of the seat's roots in one cut). By AI agents, Wed Nov 11 2026. No macro, syntax, notation, axiom, sorry.
-/
import Derived.Test.YteeanacmhclnoaaDoorChecked
import GoSem.Claim
import GoSem.ClaimJoined
import GoSem.ClaimMapViews
import Derived.JoinedTies
import Derived.KernelRfl
namespace Go.Proofs.YteeanacmhclnoaaDoor
/- THE CELL 'sum', in the pinned program and in every row, IS THE sha256 OF THE DUMP (.gsa) THAT YteeanacmhclnoaaDoorProg.lean LOADS. Nothing in Lean hashes anything: it is a label: what it is worth is what the hold of that sum in a sandbox is worth. -/
noncomputable def Tryd.pinned : Pinned := { name := "yteeanacmhclnoaadoor", sum := "0745ec1fafe0701c124f8c65805695e4d6a1ba64fb1e508c7b9be3cb683fc1f0", checked := Tryd.checked }
namespace Rows
def none {H : Type} : Left H := { results := [], args := [] }

/- WHAT THE LISTED PACKAGE-LEVEL VARIABLES READ AS WHEN THE CALL BEGINS. Each datum BY PROGRAM (the guide's laid-datum.mjs) off the statement by which the dump's own 'gosem.cut.vars' lays the variable. In a bare row this is a premise. The card (YteeanacmhclnoaaDoorCards.lean) ties it to the program's text. -/
def laid_loop_example_g00040_impl_monthDays {H : Type} : DataW H := .agg [.lit (.int .i64 0), .lit (.int .i64 31), .lit (.int .i64 28), .lit (.int .i64 31), .lit (.int .i64 30), .lit (.int .i64 31), .lit (.int .i64 30), .lit (.int .i64 31), .lit (.int .i64 31), .lit (.int .i64 30), .lit (.int .i64 31), .lit (.int .i64 30), .lit (.int .i64 31)]
def laid_loop_example_g00040_impl_leafCodes {H : Type} : DataW H := .agg [.lit (.string [99, 97, 115, 104]), .lit (.string [111, 119, 101, 100]), .lit (.string [103, 111, 111, 100, 115]), .lit (.string [112, 108, 97, 110, 116]), .lit (.string [100, 117, 101]), .lit (.string [116, 97, 120]), .lit (.string [107, 101, 112, 116]), .lit (.string [115, 97, 108, 101, 115]), .lit (.string [117, 115, 101, 100]), .lit (.string [119, 101, 97, 114]), .lit (.string [99, 111, 115, 116])]
def laid_loop_example_g00040_impl_leafKinds {H : Type} : DataW H := .agg [.lit (.int .i64 1), .lit (.int .i64 1), .lit (.int .i64 1), .lit (.int .i64 1), .lit (.int .i64 2), .lit (.int .i64 2), .lit (.int .i64 3), .lit (.int .i64 4), .lit (.int .i64 5), .lit (.int .i64 5), .lit (.int .i64 5)]

/-- 'laws.FnExactMonthEnd': WHATEVER THE INPUT: true; the input reads as it did. -/
def fnExactMonthEndSpec : ChangeSpec := { name := "fnExactMonthEnd", vars := ["loop.example/g00040/impl.monthDays"], fn := fun _ => fun
  | [d, g1] => { results := [.lit (.bool true)], args := [d], vars := [g1] }
  | _ => none }
def fnExactMonthEndRow : OpenClaim := { program := "yteeanacmhclnoaadoor", sum := "0745ec1fafe0701c124f8c65805695e4d6a1ba64fb1e508c7b9be3cb683fc1f0", func := "loop.example/g00040/laws.FnExactMonthEnd", spec := "fnExactMonthEnd", named := ["loop.example/g00040/impl.monthDays"], apart := false, laid := [("loop.example/g00040/impl.monthDays", laid_loop_example_g00040_impl_monthDays)] }
def FnExactMonthEndSaid : Prop := fnExactMonthEndRow.holds Tryd.pinned (OpenSpec.ofChange fnExactMonthEndSpec)

/-- ITS FALSE NEIGHBOUR: 'it returns false'. Refute it at one input. -/
def fnExactMonthEndWrong : ChangeSpec := { name := "fnExactMonthEnd", vars := ["loop.example/g00040/impl.monthDays"], fn := fun _ => fun
  | [d, g1] => { results := [.lit (.bool false)], args := [d], vars := [g1] }
  | _ => none }
def FnExactMonthEndWrongFalsely : Prop := fnExactMonthEndRow.holds Tryd.pinned (OpenSpec.ofChange fnExactMonthEndWrong)

/-- 'laws.FnExactAddMonths': WHATEVER THE INPUT: true; the input reads as it did. -/
def fnExactAddMonthsSpec : ChangeSpec := { name := "fnExactAddMonths", vars := ["loop.example/g00040/impl.monthDays"], fn := fun _ => fun
  | [d1, d2, g1] => { results := [.lit (.bool true)], args := [d1, d2], vars := [g1] }
  | _ => none }
def fnExactAddMonthsRow : OpenClaim := { program := "yteeanacmhclnoaadoor", sum := "0745ec1fafe0701c124f8c65805695e4d6a1ba64fb1e508c7b9be3cb683fc1f0", func := "loop.example/g00040/laws.FnExactAddMonths", spec := "fnExactAddMonths", named := ["loop.example/g00040/impl.monthDays"], apart := false, laid := [("loop.example/g00040/impl.monthDays", laid_loop_example_g00040_impl_monthDays)] }
def FnExactAddMonthsSaid : Prop := fnExactAddMonthsRow.holds Tryd.pinned (OpenSpec.ofChange fnExactAddMonthsSpec)

/-- ITS FALSE NEIGHBOUR: 'it returns false'. Refute it at one input. -/
def fnExactAddMonthsWrong : ChangeSpec := { name := "fnExactAddMonths", vars := ["loop.example/g00040/impl.monthDays"], fn := fun _ => fun
  | [d1, d2, g1] => { results := [.lit (.bool false)], args := [d1, d2], vars := [g1] }
  | _ => none }
def FnExactAddMonthsWrongFalsely : Prop := fnExactAddMonthsRow.holds Tryd.pinned (OpenSpec.ofChange fnExactAddMonthsWrong)

/-- 'laws.FnDatesBack': WHATEVER THE INPUT: true; the input reads as it did. -/
def fnDatesBackSpec : ChangeSpec := { name := "fnDatesBack", vars := ["loop.example/g00040/impl.monthDays"], fn := fun _ => fun
  | [d, g1] => { results := [.lit (.bool true)], args := [d], vars := [g1] }
  | _ => none }
def fnDatesBackRow : OpenClaim := { program := "yteeanacmhclnoaadoor", sum := "0745ec1fafe0701c124f8c65805695e4d6a1ba64fb1e508c7b9be3cb683fc1f0", func := "loop.example/g00040/laws.FnDatesBack", spec := "fnDatesBack", named := ["loop.example/g00040/impl.monthDays"], apart := false, laid := [("loop.example/g00040/impl.monthDays", laid_loop_example_g00040_impl_monthDays)] }
def FnDatesBackSaid : Prop := fnDatesBackRow.holds Tryd.pinned (OpenSpec.ofChange fnDatesBackSpec)

/-- ITS FALSE NEIGHBOUR: 'it returns false'. Refute it at one input. -/
def fnDatesBackWrong : ChangeSpec := { name := "fnDatesBack", vars := ["loop.example/g00040/impl.monthDays"], fn := fun _ => fun
  | [d, g1] => { results := [.lit (.bool false)], args := [d], vars := [g1] }
  | _ => none }
def FnDatesBackWrongFalsely : Prop := fnDatesBackRow.holds Tryd.pinned (OpenSpec.ofChange fnDatesBackWrong)

/-- 'laws.FnExactCompanyFrame': WHATEVER THE INPUT: true; the input reads as it did. -/
def fnExactCompanyFrameSpec : ChangeSpec := { name := "fnExactCompanyFrame", vars := ["loop.example/g00040/impl.leafCodes", "loop.example/g00040/impl.leafKinds"], fn := fun _ => fun
  | [g1, g2] => { results := [.lit (.bool true)], args := [], vars := [g1, g2] }
  | _ => none }
def fnExactCompanyFrameRow : OpenClaim := { program := "yteeanacmhclnoaadoor", sum := "0745ec1fafe0701c124f8c65805695e4d6a1ba64fb1e508c7b9be3cb683fc1f0", func := "loop.example/g00040/laws.FnExactCompanyFrame", spec := "fnExactCompanyFrame", named := ["loop.example/g00040/impl.leafCodes", "loop.example/g00040/impl.leafKinds"], apart := false, laid := [("loop.example/g00040/impl.leafCodes", laid_loop_example_g00040_impl_leafCodes), ("loop.example/g00040/impl.leafKinds", laid_loop_example_g00040_impl_leafKinds)] }
def FnExactCompanyFrameSaid : Prop := fnExactCompanyFrameRow.holds Tryd.pinned (OpenSpec.ofChange fnExactCompanyFrameSpec)

/-- ITS FALSE NEIGHBOUR: 'it returns false'. Refute it at one input. -/
def fnExactCompanyFrameWrong : ChangeSpec := { name := "fnExactCompanyFrame", vars := ["loop.example/g00040/impl.leafCodes", "loop.example/g00040/impl.leafKinds"], fn := fun _ => fun
  | [g1, g2] => { results := [.lit (.bool false)], args := [], vars := [g1, g2] }
  | _ => none }
def FnExactCompanyFrameWrongFalsely : Prop := fnExactCompanyFrameRow.holds Tryd.pinned (OpenSpec.ofChange fnExactCompanyFrameWrong)

/- THE SECOND FORM. 'bulk': how many values and letters a reading holds, each counted each time it is reached (what is shared counts as often as it is met; a slice's spare places count too). A statement '..UptoSaid' is the law's where the arguments, and the package variables that the reading takes, are together of bulk at most 1048576: NARROWER than '..Said'. Prove '..Said' where nothing that the law and all that it calls make is longer than what came in: it says more and counts as full. Else prove '..UptoSaid'. A law counts once. -/
mutual
def uptoBulk {H : Type} : DataW H → Nat
  | .lit (.string bytes) => bytes.length + 1
  | .lit _ => 1
  | .nil => 1
  | .ptr d => uptoBulk d + 1
  | .slice elems spare => uptoBulkAll elems + uptoBulkAll spare + 1
  | .agg parts => uptoBulkAll parts + 1
  | .iface _ d => uptoBulk d + 1
  | .map entries => uptoBulkEntries entries + 1
  | .held _ => 1
def uptoBulkAll {H : Type} : List (DataW H) → Nat
  | [] => 0
  | d :: r => uptoBulk d + uptoBulkAll r
def uptoBulkEntries {H : Type} : List (Lit × DataW H) → Nat
  | [] => 0
  | x :: r => uptoBulkEntry x + uptoBulkEntries r
def uptoBulkEntry {H : Type} : Lit × DataW H → Nat
  | (.string bytes, d) => bytes.length + uptoBulk d + 1
  | (_, d) => uptoBulk d + 1
 end
def uptoSmall : (H : Type) → List (DataW H) → Bool := fun _ ds => decide (uptoBulkAll ds ≤ 1048576)
def OpenSpec.upto (s : _root_.Go.ChangeSpec) : _root_.Go.OpenSpec := { _root_.Go.OpenSpec.ofChange s with cond := some uptoSmall }

/-- 'laws.FnExactMonthEnd', WHERE WHAT IT READS IS OF BULK AT MOST 1048576: true; the input reads as it did. -/
def fnExactMonthEndUptoRow : OpenClaim := { program := "yteeanacmhclnoaadoor", sum := "0745ec1fafe0701c124f8c65805695e4d6a1ba64fb1e508c7b9be3cb683fc1f0", func := "loop.example/g00040/laws.FnExactMonthEnd", spec := "fnExactMonthEnd", named := ["loop.example/g00040/impl.monthDays"], apart := false, laid := [("loop.example/g00040/impl.monthDays", laid_loop_example_g00040_impl_monthDays)], narrowed := true }
def FnExactMonthEndUptoSaid : Prop := fnExactMonthEndUptoRow.holds Tryd.pinned (OpenSpec.upto fnExactMonthEndSpec)

/-- 'laws.FnExactAddMonths', WHERE WHAT IT READS IS OF BULK AT MOST 1048576: true; the input reads as it did. -/
def fnExactAddMonthsUptoRow : OpenClaim := { program := "yteeanacmhclnoaadoor", sum := "0745ec1fafe0701c124f8c65805695e4d6a1ba64fb1e508c7b9be3cb683fc1f0", func := "loop.example/g00040/laws.FnExactAddMonths", spec := "fnExactAddMonths", named := ["loop.example/g00040/impl.monthDays"], apart := false, laid := [("loop.example/g00040/impl.monthDays", laid_loop_example_g00040_impl_monthDays)], narrowed := true }
def FnExactAddMonthsUptoSaid : Prop := fnExactAddMonthsUptoRow.holds Tryd.pinned (OpenSpec.upto fnExactAddMonthsSpec)

/-- 'laws.FnDatesBack', WHERE WHAT IT READS IS OF BULK AT MOST 1048576: true; the input reads as it did. -/
def fnDatesBackUptoRow : OpenClaim := { program := "yteeanacmhclnoaadoor", sum := "0745ec1fafe0701c124f8c65805695e4d6a1ba64fb1e508c7b9be3cb683fc1f0", func := "loop.example/g00040/laws.FnDatesBack", spec := "fnDatesBack", named := ["loop.example/g00040/impl.monthDays"], apart := false, laid := [("loop.example/g00040/impl.monthDays", laid_loop_example_g00040_impl_monthDays)], narrowed := true }
def FnDatesBackUptoSaid : Prop := fnDatesBackUptoRow.holds Tryd.pinned (OpenSpec.upto fnDatesBackSpec)

/-- 'laws.FnExactCompanyFrame', WHERE WHAT IT READS IS OF BULK AT MOST 1048576: true; the input reads as it did. -/
def fnExactCompanyFrameUptoRow : OpenClaim := { program := "yteeanacmhclnoaadoor", sum := "0745ec1fafe0701c124f8c65805695e4d6a1ba64fb1e508c7b9be3cb683fc1f0", func := "loop.example/g00040/laws.FnExactCompanyFrame", spec := "fnExactCompanyFrame", named := ["loop.example/g00040/impl.leafCodes", "loop.example/g00040/impl.leafKinds"], apart := false, laid := [("loop.example/g00040/impl.leafCodes", laid_loop_example_g00040_impl_leafCodes), ("loop.example/g00040/impl.leafKinds", laid_loop_example_g00040_impl_leafKinds)], narrowed := true }
def FnExactCompanyFrameUptoSaid : Prop := fnExactCompanyFrameUptoRow.holds Tryd.pinned (OpenSpec.upto fnExactCompanyFrameSpec)

end Rows
end Go.Proofs.YteeanacmhclnoaaDoor
