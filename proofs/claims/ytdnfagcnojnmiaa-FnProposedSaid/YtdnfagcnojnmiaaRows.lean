/-
  No cell of these rows narrows 'for every input' (looked for: loops, veiled, ifaces, maps, wideKeys, modest, calm, conditions, laid).
  DERIVED. THE GIVEN ROWS OF THIS SEAT. 5 by the template 'for every input the law returns true; each argument reads behind the call as it read before'; 0 by the template 'total and deterministic' (their statements: YtdnfagcnojnmiaaTotals.lean).
  GIVEN WITH THE SEED: the statements are not yours to turn. If you find one false, say at which input.
  Laid BY PROGRAM, IN A SANDBOX (cutbox-rows.mjs): the forced cells as the released guide's own fill.sh prints them over the translation 2a6a826884222d1d… (all of the seat's roots in one cut). By AI agents, Wed Nov 11 2026. No macro, syntax, notation, axiom, sorry.
-/
import Derived.Test.YtdnfagcnojnmiaaChecked
import GoSem.Claim
import GoSem.ClaimJoined
import GoSem.ClaimMapViews
import Derived.JoinedTies
import Derived.KernelRfl
namespace Go.Proofs.Ytdnfagcnojnmiaa
/- THE CELL 'sum', in the pinned program and in every row, IS THE sha256 OF THE DUMP (.gsa) THAT YtdnfagcnojnmiaaProg.lean LOADS. Nothing in Lean hashes anything: it is a label: what it is worth is what the hold of that sum in a sandbox is worth. -/
noncomputable def Try.pinned : Pinned := { name := "ytdnfagcnojnmiaa", sum := "2a6a826884222d1d63efacd2d9125bee779ff3b5092ca5cde9233c83f3e57408", checked := Try.checked }
namespace Rows
def none {H : Type} : Left H := { results := [], args := [] }

/-- 'laws.FnExactOfferOk': WHATEVER THE INPUT: true; the input reads as it did. -/
def fnExactOfferOkSpec : ChangeSpec := { name := "fnExactOfferOk", fn := fun _ => fun
  | [d1, d2] => { results := [.lit (.bool true)], args := [d1, d2] }
  | _ => none }
def fnExactOfferOkRow : OpenClaim := { program := "ytdnfagcnojnmiaa", sum := "2a6a826884222d1d63efacd2d9125bee779ff3b5092ca5cde9233c83f3e57408", func := "loop.example/g00040/laws.FnExactOfferOk", spec := "fnExactOfferOk", apart := false }
def FnExactOfferOkSaid : Prop := fnExactOfferOkRow.holds Try.pinned (OpenSpec.ofChange fnExactOfferOkSpec)

/-- ITS FALSE NEIGHBOUR: 'it returns false'. Refute it at one input. -/
def fnExactOfferOkWrong : ChangeSpec := { name := "fnExactOfferOk", fn := fun _ => fun
  | [d1, d2] => { results := [.lit (.bool false)], args := [d1, d2] }
  | _ => none }
def FnExactOfferOkWrongFalsely : Prop := fnExactOfferOkRow.holds Try.pinned (OpenSpec.ofChange fnExactOfferOkWrong)

/-- 'laws.FnExactOfferPrice': WHATEVER THE INPUT: true; the input reads as it did. -/
def fnExactOfferPriceSpec : ChangeSpec := { name := "fnExactOfferPrice", fn := fun _ => fun
  | [d1, d2, d3] => { results := [.lit (.bool true)], args := [d1, d2, d3] }
  | _ => none }
def fnExactOfferPriceRow : OpenClaim := { program := "ytdnfagcnojnmiaa", sum := "2a6a826884222d1d63efacd2d9125bee779ff3b5092ca5cde9233c83f3e57408", func := "loop.example/g00040/laws.FnExactOfferPrice", spec := "fnExactOfferPrice", apart := false }
def FnExactOfferPriceSaid : Prop := fnExactOfferPriceRow.holds Try.pinned (OpenSpec.ofChange fnExactOfferPriceSpec)

/-- ITS FALSE NEIGHBOUR: 'it returns false'. Refute it at one input. -/
def fnExactOfferPriceWrong : ChangeSpec := { name := "fnExactOfferPrice", fn := fun _ => fun
  | [d1, d2, d3] => { results := [.lit (.bool false)], args := [d1, d2, d3] }
  | _ => none }
def FnExactOfferPriceWrongFalsely : Prop := fnExactOfferPriceRow.holds Try.pinned (OpenSpec.ofChange fnExactOfferPriceWrong)

/-- 'laws.FnExactRateAt': WHATEVER THE INPUT: true; the input reads as it did. -/
def fnExactRateAtSpec : ChangeSpec := { name := "fnExactRateAt", fn := fun _ => fun
  | [d1, d2, d3, d4] => { results := [.lit (.bool true)], args := [d1, d2, d3, d4] }
  | _ => none }
def fnExactRateAtRow : OpenClaim := { program := "ytdnfagcnojnmiaa", sum := "2a6a826884222d1d63efacd2d9125bee779ff3b5092ca5cde9233c83f3e57408", func := "loop.example/g00040/laws.FnExactRateAt", spec := "fnExactRateAt", unfollowed := true, recurses := true, apart := false }
def FnExactRateAtSaid : Prop := fnExactRateAtRow.holds Try.pinned (OpenSpec.ofChange fnExactRateAtSpec)

/-- ITS FALSE NEIGHBOUR: 'it returns false'. Refute it at one input. -/
def fnExactRateAtWrong : ChangeSpec := { name := "fnExactRateAt", fn := fun _ => fun
  | [d1, d2, d3, d4] => { results := [.lit (.bool false)], args := [d1, d2, d3, d4] }
  | _ => none }
def FnExactRateAtWrongFalsely : Prop := fnExactRateAtRow.holds Try.pinned (OpenSpec.ofChange fnExactRateAtWrong)

/-- 'laws.FnExactShares': WHATEVER THE INPUT: true; the input reads as it did. -/
def fnExactSharesSpec : ChangeSpec := { name := "fnExactShares", fn := fun _ => fun
  | [d1, d2] => { results := [.lit (.bool true)], args := [d1, d2] }
  | _ => none }
def fnExactSharesRow : OpenClaim := { program := "ytdnfagcnojnmiaa", sum := "2a6a826884222d1d63efacd2d9125bee779ff3b5092ca5cde9233c83f3e57408", func := "loop.example/g00040/laws.FnExactShares", spec := "fnExactShares", unfollowed := true, recurses := true, apart := false }
def FnExactSharesSaid : Prop := fnExactSharesRow.holds Try.pinned (OpenSpec.ofChange fnExactSharesSpec)

/-- ITS FALSE NEIGHBOUR: 'it returns false'. Refute it at one input. -/
def fnExactSharesWrong : ChangeSpec := { name := "fnExactShares", fn := fun _ => fun
  | [d1, d2] => { results := [.lit (.bool false)], args := [d1, d2] }
  | _ => none }
def FnExactSharesWrongFalsely : Prop := fnExactSharesRow.holds Try.pinned (OpenSpec.ofChange fnExactSharesWrong)

/-- 'laws.FnProposed': WHATEVER THE INPUT: true; the input reads as it did. -/
def fnProposedSpec : ChangeSpec := { name := "fnProposed", fn := fun _ => fun
  | [d] => { results := [.lit (.bool true)], args := [d] }
  | _ => none }
def fnProposedRow : OpenClaim := { program := "ytdnfagcnojnmiaa", sum := "2a6a826884222d1d63efacd2d9125bee779ff3b5092ca5cde9233c83f3e57408", func := "loop.example/g00040/laws.FnProposed", spec := "fnProposed", unfollowed := true, recurses := true, apart := false }
def FnProposedSaid : Prop := fnProposedRow.holds Try.pinned (OpenSpec.ofChange fnProposedSpec)

/-- ITS FALSE NEIGHBOUR: 'it returns false'. Refute it at one input. -/
def fnProposedWrong : ChangeSpec := { name := "fnProposed", fn := fun _ => fun
  | [d] => { results := [.lit (.bool false)], args := [d] }
  | _ => none }
def FnProposedWrongFalsely : Prop := fnProposedRow.holds Try.pinned (OpenSpec.ofChange fnProposedWrong)

/- THE SECOND FORM. 'bulk': how many values and letters a reading holds, each counted each time it is reached (what is shared counts as often as it is met; a slice's spare places count too). A statement '..UptoSaid' is the law's where the arguments, and the package variables that the reading takes, are together of bulk at most 1048576: NARROWER than '..Said'. Prove '..Said' where nothing that the law and all that it calls make is longer than what came in: it says more and counts as full. Else prove '..UptoSaid'. A law counts once. -/
mutual
def uptoBulk {H : Type} : DataW H → Nat
  | .lit (.string bytes) => bytes.length + 1
  | .lit _ => 1
  | .nil => 1
  | .ptr d => uptoBulk d + 1
  | .slice elems spare => uptoBulkAll elems + uptoBulkAll spare + 1
  | .agg parts => uptoBulkAll parts + 1
  | .iface _ d => uptoBulk d + 1
  | .map entries => uptoBulkEntries entries + 1
  | .held _ => 1
def uptoBulkAll {H : Type} : List (DataW H) → Nat
  | [] => 0
  | d :: r => uptoBulk d + uptoBulkAll r
def uptoBulkEntries {H : Type} : List (Lit × DataW H) → Nat
  | [] => 0
  | x :: r => uptoBulkEntry x + uptoBulkEntries r
def uptoBulkEntry {H : Type} : Lit × DataW H → Nat
  | (.string bytes, d) => bytes.length + uptoBulk d + 1
  | (_, d) => uptoBulk d + 1
 end
def uptoSmall : (H : Type) → List (DataW H) → Bool := fun _ ds => decide (uptoBulkAll ds ≤ 1048576)
def OpenSpec.upto (s : _root_.Go.ChangeSpec) : _root_.Go.OpenSpec := { _root_.Go.OpenSpec.ofChange s with cond := some uptoSmall }

/-- 'laws.FnExactOfferOk', WHERE WHAT IT READS IS OF BULK AT MOST 1048576: true; the input reads as it did. -/
def fnExactOfferOkUptoRow : OpenClaim := { program := "ytdnfagcnojnmiaa", sum := "2a6a826884222d1d63efacd2d9125bee779ff3b5092ca5cde9233c83f3e57408", func := "loop.example/g00040/laws.FnExactOfferOk", spec := "fnExactOfferOk", apart := false, narrowed := true }
def FnExactOfferOkUptoSaid : Prop := fnExactOfferOkUptoRow.holds Try.pinned (OpenSpec.upto fnExactOfferOkSpec)

/-- 'laws.FnExactOfferPrice', WHERE WHAT IT READS IS OF BULK AT MOST 1048576: true; the input reads as it did. -/
def fnExactOfferPriceUptoRow : OpenClaim := { program := "ytdnfagcnojnmiaa", sum := "2a6a826884222d1d63efacd2d9125bee779ff3b5092ca5cde9233c83f3e57408", func := "loop.example/g00040/laws.FnExactOfferPrice", spec := "fnExactOfferPrice", apart := false, narrowed := true }
def FnExactOfferPriceUptoSaid : Prop := fnExactOfferPriceUptoRow.holds Try.pinned (OpenSpec.upto fnExactOfferPriceSpec)

/-- 'laws.FnExactRateAt', WHERE WHAT IT READS IS OF BULK AT MOST 1048576: true; the input reads as it did. -/
def fnExactRateAtUptoRow : OpenClaim := { program := "ytdnfagcnojnmiaa", sum := "2a6a826884222d1d63efacd2d9125bee779ff3b5092ca5cde9233c83f3e57408", func := "loop.example/g00040/laws.FnExactRateAt", spec := "fnExactRateAt", unfollowed := true, recurses := true, apart := false, narrowed := true }
def FnExactRateAtUptoSaid : Prop := fnExactRateAtUptoRow.holds Try.pinned (OpenSpec.upto fnExactRateAtSpec)

/-- 'laws.FnExactShares', WHERE WHAT IT READS IS OF BULK AT MOST 1048576: true; the input reads as it did. -/
def fnExactSharesUptoRow : OpenClaim := { program := "ytdnfagcnojnmiaa", sum := "2a6a826884222d1d63efacd2d9125bee779ff3b5092ca5cde9233c83f3e57408", func := "loop.example/g00040/laws.FnExactShares", spec := "fnExactShares", unfollowed := true, recurses := true, apart := false, narrowed := true }
def FnExactSharesUptoSaid : Prop := fnExactSharesUptoRow.holds Try.pinned (OpenSpec.upto fnExactSharesSpec)

/-- 'laws.FnProposed', WHERE WHAT IT READS IS OF BULK AT MOST 1048576: true; the input reads as it did. -/
def fnProposedUptoRow : OpenClaim := { program := "ytdnfagcnojnmiaa", sum := "2a6a826884222d1d63efacd2d9125bee779ff3b5092ca5cde9233c83f3e57408", func := "loop.example/g00040/laws.FnProposed", spec := "fnProposed", unfollowed := true, recurses := true, apart := false, narrowed := true }
def FnProposedUptoSaid : Prop := fnProposedUptoRow.holds Try.pinned (OpenSpec.upto fnProposedSpec)

end Rows
end Go.Proofs.Ytdnfagcnojnmiaa
