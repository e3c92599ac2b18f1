/-
  NARROWER THAN 'FOR EVERY INPUT', by the rows' own cells (each row's printed sentence says how): FnExactCompanyFrame: laid.
  DERIVED. THE GIVEN ROWS OF THIS SEAT. 1 by the template 'for every input the law returns true; each argument reads behind the call as it read before'; 0 by the template 'total and deterministic' (their statements: YtdnfagcnojnmiabDoorTotals.lean).
  GIVEN WITH THE SEED: the statements are not yours to turn. If you find one false, say at which input.
  Laid BY PROGRAM, IN A SANDBOX (cutbox-rows.mjs): the forced cells as the released guide's own fill.sh prints them over the translation b9c4fca0d067bbca… (all of the seat's roots in one cut). By AI agents, Wed Nov 11 2026. No macro, syntax, notation, axiom, sorry.
-/
import Derived.Test.YtdnfagcnojnmiabDoorChecked
import GoSem.Claim
import GoSem.ClaimJoined
import GoSem.ClaimMapViews
import Derived.JoinedTies
import Derived.KernelRfl
namespace Go.Proofs.YtdnfagcnojnmiabDoor
/- THE CELL 'sum', in the pinned program and in every row, IS THE sha256 OF THE DUMP (.gsa) THAT YtdnfagcnojnmiabDoorProg.lean LOADS. Nothing in Lean hashes anything: it is a label: what it is worth is what the hold of that sum in a sandbox is worth. -/
noncomputable def Tryd.pinned : Pinned := { name := "ytdnfagcnojnmiabdoor", sum := "b9c4fca0d067bbca48b941b81239273317e96e1d37395f0efd88a7dfaecb6dd8", checked := Tryd.checked }
namespace Rows
def none {H : Type} : Left H := { results := [], args := [] }

/- WHAT THE LISTED PACKAGE-LEVEL VARIABLES READ AS WHEN THE CALL BEGINS. Each datum BY PROGRAM (the guide's laid-datum.mjs) off the statement by which the dump's own 'gosem.cut.vars' lays the variable. In a bare row this is a premise. The card (YtdnfagcnojnmiabDoorCards.lean) ties it to the program's text. -/
def laid_loop_example_g00040_impl_leafCodes {H : Type} : DataW H := .agg [.lit (.string [99, 97, 115, 104]), .lit (.string [111, 119, 101, 100]), .lit (.string [103, 111, 111, 100, 115]), .lit (.string [112, 108, 97, 110, 116]), .lit (.string [100, 117, 101]), .lit (.string [116, 97, 120]), .lit (.string [107, 101, 112, 116]), .lit (.string [115, 97, 108, 101, 115]), .lit (.string [117, 115, 101, 100]), .lit (.string [119, 101, 97, 114]), .lit (.string [99, 111, 115, 116])]
def laid_loop_example_g00040_impl_leafKinds {H : Type} : DataW H := .agg [.lit (.int .i64 1), .lit (.int .i64 1), .lit (.int .i64 1), .lit (.int .i64 1), .lit (.int .i64 2), .lit (.int .i64 2), .lit (.int .i64 3), .lit (.int .i64 4), .lit (.int .i64 5), .lit (.int .i64 5), .lit (.int .i64 5)]

/-- 'laws.FnExactCompanyFrame': WHATEVER THE INPUT: true; the input reads as it did. -/
def fnExactCompanyFrameSpec : ChangeSpec := { name := "fnExactCompanyFrame", vars := ["loop.example/g00040/impl.leafCodes", "loop.example/g00040/impl.leafKinds"], fn := fun _ => fun
  | [g1, g2] => { results := [.lit (.bool true)], args := [], vars := [g1, g2] }
  | _ => none }
def fnExactCompanyFrameRow : OpenClaim := { program := "ytdnfagcnojnmiabdoor", sum := "b9c4fca0d067bbca48b941b81239273317e96e1d37395f0efd88a7dfaecb6dd8", func := "loop.example/g00040/laws.FnExactCompanyFrame", spec := "fnExactCompanyFrame", named := ["loop.example/g00040/impl.leafCodes", "loop.example/g00040/impl.leafKinds"], apart := false, laid := [("loop.example/g00040/impl.leafCodes", laid_loop_example_g00040_impl_leafCodes), ("loop.example/g00040/impl.leafKinds", laid_loop_example_g00040_impl_leafKinds)] }
def FnExactCompanyFrameSaid : Prop := fnExactCompanyFrameRow.holds Tryd.pinned (OpenSpec.ofChange fnExactCompanyFrameSpec)

/-- ITS FALSE NEIGHBOUR: 'it returns false'. Refute it at one input. -/
def fnExactCompanyFrameWrong : ChangeSpec := { name := "fnExactCompanyFrame", vars := ["loop.example/g00040/impl.leafCodes", "loop.example/g00040/impl.leafKinds"], fn := fun _ => fun
  | [g1, g2] => { results := [.lit (.bool false)], args := [], vars := [g1, g2] }
  | _ => none }
def FnExactCompanyFrameWrongFalsely : Prop := fnExactCompanyFrameRow.holds Tryd.pinned (OpenSpec.ofChange fnExactCompanyFrameWrong)

/- THE SECOND FORM. 'bulk': how many values and letters a reading holds, each counted each time it is reached (what is shared counts as often as it is met; a slice's spare places count too). A statement '..UptoSaid' is the law's where the arguments, and the package variables that the reading takes, are together of bulk at most 1048576: NARROWER than '..Said'. Prove '..Said' where nothing that the law and all that it calls make is longer than what came in: it says more and counts as full. Else prove '..UptoSaid'. A law counts once. -/
mutual
def uptoBulk {H : Type} : DataW H → Nat
  | .lit (.string bytes) => bytes.length + 1
  | .lit _ => 1
  | .nil => 1
  | .ptr d => uptoBulk d + 1
  | .slice elems spare => uptoBulkAll elems + uptoBulkAll spare + 1
  | .agg parts => uptoBulkAll parts + 1
  | .iface _ d => uptoBulk d + 1
  | .map entries => uptoBulkEntries entries + 1
  | .held _ => 1
def uptoBulkAll {H : Type} : List (DataW H) → Nat
  | [] => 0
  | d :: r => uptoBulk d + uptoBulkAll r
def uptoBulkEntries {H : Type} : List (Lit × DataW H) → Nat
  | [] => 0
  | x :: r => uptoBulkEntry x + uptoBulkEntries r
def uptoBulkEntry {H : Type} : Lit × DataW H → Nat
  | (.string bytes, d) => bytes.length + uptoBulk d + 1
  | (_, d) => uptoBulk d + 1
 end
def uptoSmall : (H : Type) → List (DataW H) → Bool := fun _ ds => decide (uptoBulkAll ds ≤ 1048576)
def OpenSpec.upto (s : _root_.Go.ChangeSpec) : _root_.Go.OpenSpec := { _root_.Go.OpenSpec.ofChange s with cond := some uptoSmall }

/-- 'laws.FnExactCompanyFrame', WHERE WHAT IT READS IS OF BULK AT MOST 1048576: true; the input reads as it did. -/
def fnExactCompanyFrameUptoRow : OpenClaim := { program := "ytdnfagcnojnmiabdoor", sum := "b9c4fca0d067bbca48b941b81239273317e96e1d37395f0efd88a7dfaecb6dd8", func := "loop.example/g00040/laws.FnExactCompanyFrame", spec := "fnExactCompanyFrame", named := ["loop.example/g00040/impl.leafCodes", "loop.example/g00040/impl.leafKinds"], apart := false, laid := [("loop.example/g00040/impl.leafCodes", laid_loop_example_g00040_impl_leafCodes), ("loop.example/g00040/impl.leafKinds", laid_loop_example_g00040_impl_leafKinds)], narrowed := true }
def FnExactCompanyFrameUptoSaid : Prop := fnExactCompanyFrameUptoRow.holds Tryd.pinned (OpenSpec.upto fnExactCompanyFrameSpec)

end Rows
end Go.Proofs.YtdnfagcnojnmiabDoor
