/-
  No cell of these rows narrows 'for every input' (looked for: loops, veiled, ifaces, maps, wideKeys, modest, calm, conditions, laid).
  DERIVED. THE GIVEN ROWS OF THIS SEAT. 4 by the template 'for every input the law returns true; each argument reads behind the call as it read before'; 0 by the template 'total and deterministic' (their statements: YtegkhdobjcdfnafTotals.lean).
  GIVEN WITH THE SEED: the statements are not yours to turn. If you find one false, say at which input.
  Laid BY PROGRAM, IN A SANDBOX (cutbox-rows.mjs): the forced cells as the released guide's own fill.sh prints them over the translation b04da0512d7bbcba… (all of the seat's roots in one cut). By AI agents, Wed Nov 11 2026. No macro, syntax, notation, axiom, sorry.
-/
import Derived.Test.YtegkhdobjcdfnafChecked
import GoSem.Claim
import GoSem.ClaimJoined
import GoSem.ClaimMapViews
import Derived.JoinedTies
import Derived.KernelRfl
namespace Go.Proofs.Ytegkhdobjcdfnaf
/- THE CELL 'sum', in the pinned program and in every row, IS THE sha256 OF THE DUMP (.gsa) THAT YtegkhdobjcdfnafProg.lean LOADS. Nothing in Lean hashes anything: it is a label: what it is worth is what the hold of that sum in a sandbox is worth. -/
noncomputable def Try.pinned : Pinned := { name := "ytegkhdobjcdfnaf", sum := "b04da0512d7bbcbac0fe7e939c927bfdfcc46e00b196cd131f130d8c67f251aa", checked := Try.checked }
namespace Rows
def none {H : Type} : Left H := { results := [], args := [] }

/-- 'laws.FnExactReadMoney': WHATEVER THE INPUT: true; the input reads as it did. -/
def fnExactReadMoneySpec : ChangeSpec := { name := "fnExactReadMoney", fn := fun _ => fun
  | [d1, d2] => { results := [.lit (.bool true)], args := [d1, d2] }
  | _ => none }
def fnExactReadMoneyRow : OpenClaim := { program := "ytegkhdobjcdfnaf", sum := "b04da0512d7bbcbac0fe7e939c927bfdfcc46e00b196cd131f130d8c67f251aa", func := "loop.example/g00040/laws.FnExactReadMoney", spec := "fnExactReadMoney", recurses := true, apart := false }
def FnExactReadMoneySaid : Prop := fnExactReadMoneyRow.holds Try.pinned (OpenSpec.ofChange fnExactReadMoneySpec)

/-- ITS FALSE NEIGHBOUR: 'it returns false'. Refute it at one input. -/
def fnExactReadMoneyWrong : ChangeSpec := { name := "fnExactReadMoney", fn := fun _ => fun
  | [d1, d2] => { results := [.lit (.bool false)], args := [d1, d2] }
  | _ => none }
def FnExactReadMoneyWrongFalsely : Prop := fnExactReadMoneyRow.holds Try.pinned (OpenSpec.ofChange fnExactReadMoneyWrong)

/-- 'laws.FnMoneyBack': WHATEVER THE INPUT: true; the input reads as it did. -/
def fnMoneyBackSpec : ChangeSpec := { name := "fnMoneyBack", fn := fun _ => fun
  | [d] => { results := [.lit (.bool true)], args := [d] }
  | _ => none }
def fnMoneyBackRow : OpenClaim := { program := "ytegkhdobjcdfnaf", sum := "b04da0512d7bbcbac0fe7e939c927bfdfcc46e00b196cd131f130d8c67f251aa", func := "loop.example/g00040/laws.FnMoneyBack", spec := "fnMoneyBack", recurses := true, apart := false }
def FnMoneyBackSaid : Prop := fnMoneyBackRow.holds Try.pinned (OpenSpec.ofChange fnMoneyBackSpec)

/-- ITS FALSE NEIGHBOUR: 'it returns false'. Refute it at one input. -/
def fnMoneyBackWrong : ChangeSpec := { name := "fnMoneyBack", fn := fun _ => fun
  | [d] => { results := [.lit (.bool false)], args := [d] }
  | _ => none }
def FnMoneyBackWrongFalsely : Prop := fnMoneyBackRow.holds Try.pinned (OpenSpec.ofChange fnMoneyBackWrong)

/-- 'laws.FnExactOfferOk': WHATEVER THE INPUT: true; the input reads as it did. -/
def fnExactOfferOkSpec : ChangeSpec := { name := "fnExactOfferOk", fn := fun _ => fun
  | [d1, d2] => { results := [.lit (.bool true)], args := [d1, d2] }
  | _ => none }
def fnExactOfferOkRow : OpenClaim := { program := "ytegkhdobjcdfnaf", sum := "b04da0512d7bbcbac0fe7e939c927bfdfcc46e00b196cd131f130d8c67f251aa", func := "loop.example/g00040/laws.FnExactOfferOk", spec := "fnExactOfferOk", apart := false }
def FnExactOfferOkSaid : Prop := fnExactOfferOkRow.holds Try.pinned (OpenSpec.ofChange fnExactOfferOkSpec)

/-- ITS FALSE NEIGHBOUR: 'it returns false'. Refute it at one input. -/
def fnExactOfferOkWrong : ChangeSpec := { name := "fnExactOfferOk", fn := fun _ => fun
  | [d1, d2] => { results := [.lit (.bool false)], args := [d1, d2] }
  | _ => none }
def FnExactOfferOkWrongFalsely : Prop := fnExactOfferOkRow.holds Try.pinned (OpenSpec.ofChange fnExactOfferOkWrong)

/-- 'laws.FnNumbered': WHATEVER THE INPUT: true; the input reads as it did. -/
def fnNumberedSpec : ChangeSpec := { name := "fnNumbered", fn := fun _ => fun
  | [d] => { results := [.lit (.bool true)], args := [d] }
  | _ => none }
def fnNumberedRow : OpenClaim := { program := "ytegkhdobjcdfnaf", sum := "b04da0512d7bbcbac0fe7e939c927bfdfcc46e00b196cd131f130d8c67f251aa", func := "loop.example/g00040/laws.FnNumbered", spec := "fnNumbered", recurses := true, apart := false }
def FnNumberedSaid : Prop := fnNumberedRow.holds Try.pinned (OpenSpec.ofChange fnNumberedSpec)

/-- ITS FALSE NEIGHBOUR: 'it returns false'. Refute it at one input. -/
def fnNumberedWrong : ChangeSpec := { name := "fnNumbered", fn := fun _ => fun
  | [d] => { results := [.lit (.bool false)], args := [d] }
  | _ => none }
def FnNumberedWrongFalsely : Prop := fnNumberedRow.holds Try.pinned (OpenSpec.ofChange fnNumberedWrong)

/- THE SECOND FORM. 'bulk': how many values and letters a reading holds, each counted each time it is reached (what is shared counts as often as it is met; a slice's spare places count too). A statement '..UptoSaid' is the law's where the arguments, and the package variables that the reading takes, are together of bulk at most 1048576: NARROWER than '..Said'. Prove '..Said' where nothing that the law and all that it calls make is longer than what came in: it says more and counts as full. Else prove '..UptoSaid'. A law counts once. -/
mutual
def uptoBulk {H : Type} : DataW H → Nat
  | .lit (.string bytes) => bytes.length + 1
  | .lit _ => 1
  | .nil => 1
  | .ptr d => uptoBulk d + 1
  | .slice elems spare => uptoBulkAll elems + uptoBulkAll spare + 1
  | .agg parts => uptoBulkAll parts + 1
  | .iface _ d => uptoBulk d + 1
  | .map entries => uptoBulkEntries entries + 1
  | .held _ => 1
def uptoBulkAll {H : Type} : List (DataW H) → Nat
  | [] => 0
  | d :: r => uptoBulk d + uptoBulkAll r
def uptoBulkEntries {H : Type} : List (Lit × DataW H) → Nat
  | [] => 0
  | x :: r => uptoBulkEntry x + uptoBulkEntries r
def uptoBulkEntry {H : Type} : Lit × DataW H → Nat
  | (.string bytes, d) => bytes.length + uptoBulk d + 1
  | (_, d) => uptoBulk d + 1
 end
def uptoSmall : (H : Type) → List (DataW H) → Bool := fun _ ds => decide (uptoBulkAll ds ≤ 1048576)
def OpenSpec.upto (s : _root_.Go.ChangeSpec) : _root_.Go.OpenSpec := { _root_.Go.OpenSpec.ofChange s with cond := some uptoSmall }

/-- 'laws.FnExactReadMoney', WHERE WHAT IT READS IS OF BULK AT MOST 1048576: true; the input reads as it did. -/
def fnExactReadMoneyUptoRow : OpenClaim := { program := "ytegkhdobjcdfnaf", sum := "b04da0512d7bbcbac0fe7e939c927bfdfcc46e00b196cd131f130d8c67f251aa", func := "loop.example/g00040/laws.FnExactReadMoney", spec := "fnExactReadMoney", recurses := true, apart := false, narrowed := true }
def FnExactReadMoneyUptoSaid : Prop := fnExactReadMoneyUptoRow.holds Try.pinned (OpenSpec.upto fnExactReadMoneySpec)

/-- 'laws.FnMoneyBack', WHERE WHAT IT READS IS OF BULK AT MOST 1048576: true; the input reads as it did. -/
def fnMoneyBackUptoRow : OpenClaim := { program := "ytegkhdobjcdfnaf", sum := "b04da0512d7bbcbac0fe7e939c927bfdfcc46e00b196cd131f130d8c67f251aa", func := "loop.example/g00040/laws.FnMoneyBack", spec := "fnMoneyBack", recurses := true, apart := false, narrowed := true }
def FnMoneyBackUptoSaid : Prop := fnMoneyBackUptoRow.holds Try.pinned (OpenSpec.upto fnMoneyBackSpec)

/-- 'laws.FnExactOfferOk', WHERE WHAT IT READS IS OF BULK AT MOST 1048576: true; the input reads as it did. -/
def fnExactOfferOkUptoRow : OpenClaim := { program := "ytegkhdobjcdfnaf", sum := "b04da0512d7bbcbac0fe7e939c927bfdfcc46e00b196cd131f130d8c67f251aa", func := "loop.example/g00040/laws.FnExactOfferOk", spec := "fnExactOfferOk", apart := false, narrowed := true }
def FnExactOfferOkUptoSaid : Prop := fnExactOfferOkUptoRow.holds Try.pinned (OpenSpec.upto fnExactOfferOkSpec)

/-- 'laws.FnNumbered', WHERE WHAT IT READS IS OF BULK AT MOST 1048576: true; the input reads as it did. -/
def fnNumberedUptoRow : OpenClaim := { program := "ytegkhdobjcdfnaf", sum := "b04da0512d7bbcbac0fe7e939c927bfdfcc46e00b196cd131f130d8c67f251aa", func := "loop.example/g00040/laws.FnNumbered", spec := "fnNumbered", recurses := true, apart := false, narrowed := true }
def FnNumberedUptoSaid : Prop := fnNumberedUptoRow.holds Try.pinned (OpenSpec.upto fnNumberedSpec)

end Rows
end Go.Proofs.Ytegkhdobjcdfnaf
