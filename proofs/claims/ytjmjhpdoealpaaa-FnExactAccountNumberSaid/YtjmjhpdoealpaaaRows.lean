/-
  No cell of these rows narrows 'for every input' (looked for: loops, veiled, ifaces, maps, wideKeys, modest, calm, conditions, laid).
  DERIVED. THE GIVEN ROWS OF THIS SEAT. 6 by the template 'for every input the law returns true; each argument reads behind the call as it read before'; 0 by the template 'total and deterministic' (their statements: YtjmjhpdoealpaaaTotals.lean).
  GIVEN WITH THE SEED: the statements are not yours to turn. If you find one false, say at which input.
  Laid BY PROGRAM, IN A SANDBOX (cutbox-rows.mjs): the forced cells as the released guide's own fill.sh prints them over the translation 00edfa5a5471b9e1… (all of the seat's roots in one cut). By AI agents, Wed Nov 11 2026. No macro, syntax, notation, axiom, sorry.
-/
import Derived.Test.YtjmjhpdoealpaaaChecked
import GoSem.Claim
import GoSem.ClaimJoined
import GoSem.ClaimMapViews
import Derived.JoinedTies
import Derived.KernelRfl
namespace Go.Proofs.Ytjmjhpdoealpaaa
/- THE CELL 'sum', in the pinned program and in every row, IS THE sha256 OF THE DUMP (.gsa) THAT YtjmjhpdoealpaaaProg.lean LOADS. Nothing in Lean hashes anything: it is a label: what it is worth is what the hold of that sum in a sandbox is worth. -/
noncomputable def Try.pinned : Pinned := { name := "ytjmjhpdoealpaaa", sum := "00edfa5a5471b9e17c4cfeb91d2f99c036516db71e94eaf0f2ea9d8ad4ad7635", checked := Try.checked }
namespace Rows
def none {H : Type} : Left H := { results := [], args := [] }

/-- 'laws.FnExactConstants': WHATEVER THE INPUT: true; the input reads as it did. -/
def fnExactConstantsSpec : ChangeSpec := { name := "fnExactConstants", fn := fun _ => fun
  | [] => { results := [.lit (.bool true)], args := [] }
  | _ => none }
def fnExactConstantsRow : OpenClaim := { program := "ytjmjhpdoealpaaa", sum := "00edfa5a5471b9e17c4cfeb91d2f99c036516db71e94eaf0f2ea9d8ad4ad7635", func := "loop.example/g00040/laws.FnExactConstants", spec := "fnExactConstants", apart := false }
def FnExactConstantsSaid : Prop := fnExactConstantsRow.holds Try.pinned (OpenSpec.ofChange fnExactConstantsSpec)

/-- ITS FALSE NEIGHBOUR: 'it returns false'. Refute it at one input. -/
def fnExactConstantsWrong : ChangeSpec := { name := "fnExactConstants", fn := fun _ => fun
  | [] => { results := [.lit (.bool false)], args := [] }
  | _ => none }
def FnExactConstantsWrongFalsely : Prop := fnExactConstantsRow.holds Try.pinned (OpenSpec.ofChange fnExactConstantsWrong)

/-- 'laws.FnExactWeekday': WHATEVER THE INPUT: true; the input reads as it did. -/
def fnExactWeekdaySpec : ChangeSpec := { name := "fnExactWeekday", fn := fun _ => fun
  | [d] => { results := [.lit (.bool true)], args := [d] }
  | _ => none }
def fnExactWeekdayRow : OpenClaim := { program := "ytjmjhpdoealpaaa", sum := "00edfa5a5471b9e17c4cfeb91d2f99c036516db71e94eaf0f2ea9d8ad4ad7635", func := "loop.example/g00040/laws.FnExactWeekday", spec := "fnExactWeekday", apart := false }
def FnExactWeekdaySaid : Prop := fnExactWeekdayRow.holds Try.pinned (OpenSpec.ofChange fnExactWeekdaySpec)

/-- ITS FALSE NEIGHBOUR: 'it returns false'. Refute it at one input. -/
def fnExactWeekdayWrong : ChangeSpec := { name := "fnExactWeekday", fn := fun _ => fun
  | [d] => { results := [.lit (.bool false)], args := [d] }
  | _ => none }
def FnExactWeekdayWrongFalsely : Prop := fnExactWeekdayRow.holds Try.pinned (OpenSpec.ofChange fnExactWeekdayWrong)

/-- 'laws.FnExactNormal': WHATEVER THE INPUT: true; the input reads as it did. -/
def fnExactNormalSpec : ChangeSpec := { name := "fnExactNormal", fn := fun _ => fun
  | [d] => { results := [.lit (.bool true)], args := [d] }
  | _ => none }
def fnExactNormalRow : OpenClaim := { program := "ytjmjhpdoealpaaa", sum := "00edfa5a5471b9e17c4cfeb91d2f99c036516db71e94eaf0f2ea9d8ad4ad7635", func := "loop.example/g00040/laws.FnExactNormal", spec := "fnExactNormal", apart := false }
def FnExactNormalSaid : Prop := fnExactNormalRow.holds Try.pinned (OpenSpec.ofChange fnExactNormalSpec)

/-- ITS FALSE NEIGHBOUR: 'it returns false'. Refute it at one input. -/
def fnExactNormalWrong : ChangeSpec := { name := "fnExactNormal", fn := fun _ => fun
  | [d] => { results := [.lit (.bool false)], args := [d] }
  | _ => none }
def FnExactNormalWrongFalsely : Prop := fnExactNormalRow.holds Try.pinned (OpenSpec.ofChange fnExactNormalWrong)

/-- 'laws.FnExactNameOk': WHATEVER THE INPUT: true; the input reads as it did. -/
def fnExactNameOkSpec : ChangeSpec := { name := "fnExactNameOk", fn := fun _ => fun
  | [d] => { results := [.lit (.bool true)], args := [d] }
  | _ => none }
def fnExactNameOkRow : OpenClaim := { program := "ytjmjhpdoealpaaa", sum := "00edfa5a5471b9e17c4cfeb91d2f99c036516db71e94eaf0f2ea9d8ad4ad7635", func := "loop.example/g00040/laws.FnExactNameOk", spec := "fnExactNameOk", apart := false }
def FnExactNameOkSaid : Prop := fnExactNameOkRow.holds Try.pinned (OpenSpec.ofChange fnExactNameOkSpec)

/-- ITS FALSE NEIGHBOUR: 'it returns false'. Refute it at one input. -/
def fnExactNameOkWrong : ChangeSpec := { name := "fnExactNameOk", fn := fun _ => fun
  | [d] => { results := [.lit (.bool false)], args := [d] }
  | _ => none }
def FnExactNameOkWrongFalsely : Prop := fnExactNameOkRow.holds Try.pinned (OpenSpec.ofChange fnExactNameOkWrong)

/-- 'laws.FnExactAccountNumber': WHATEVER THE INPUT: true; the input reads as it did. -/
def fnExactAccountNumberSpec : ChangeSpec := { name := "fnExactAccountNumber", fn := fun _ => fun
  | [d] => { results := [.lit (.bool true)], args := [d] }
  | _ => none }
def fnExactAccountNumberRow : OpenClaim := { program := "ytjmjhpdoealpaaa", sum := "00edfa5a5471b9e17c4cfeb91d2f99c036516db71e94eaf0f2ea9d8ad4ad7635", func := "loop.example/g00040/laws.FnExactAccountNumber", spec := "fnExactAccountNumber", apart := false }
def FnExactAccountNumberSaid : Prop := fnExactAccountNumberRow.holds Try.pinned (OpenSpec.ofChange fnExactAccountNumberSpec)

/-- ITS FALSE NEIGHBOUR: 'it returns false'. Refute it at one input. -/
def fnExactAccountNumberWrong : ChangeSpec := { name := "fnExactAccountNumber", fn := fun _ => fun
  | [d] => { results := [.lit (.bool false)], args := [d] }
  | _ => none }
def FnExactAccountNumberWrongFalsely : Prop := fnExactAccountNumberRow.holds Try.pinned (OpenSpec.ofChange fnExactAccountNumberWrong)

/-- 'laws.FnExactPeriodAt': WHATEVER THE INPUT: true; the input reads as it did. -/
def fnExactPeriodAtSpec : ChangeSpec := { name := "fnExactPeriodAt", fn := fun _ => fun
  | [d1, d2] => { results := [.lit (.bool true)], args := [d1, d2] }
  | _ => none }
def fnExactPeriodAtRow : OpenClaim := { program := "ytjmjhpdoealpaaa", sum := "00edfa5a5471b9e17c4cfeb91d2f99c036516db71e94eaf0f2ea9d8ad4ad7635", func := "loop.example/g00040/laws.FnExactPeriodAt", spec := "fnExactPeriodAt", apart := false }
def FnExactPeriodAtSaid : Prop := fnExactPeriodAtRow.holds Try.pinned (OpenSpec.ofChange fnExactPeriodAtSpec)

/-- ITS FALSE NEIGHBOUR: 'it returns false'. Refute it at one input. -/
def fnExactPeriodAtWrong : ChangeSpec := { name := "fnExactPeriodAt", fn := fun _ => fun
  | [d1, d2] => { results := [.lit (.bool false)], args := [d1, d2] }
  | _ => none }
def FnExactPeriodAtWrongFalsely : Prop := fnExactPeriodAtRow.holds Try.pinned (OpenSpec.ofChange fnExactPeriodAtWrong)

/- THE SECOND FORM. 'bulk': how many values and letters a reading holds, each counted each time it is reached (what is shared counts as often as it is met; a slice's spare places count too). A statement '..UptoSaid' is the law's where the arguments, and the package variables that the reading takes, are together of bulk at most 1048576: NARROWER than '..Said'. Prove '..Said' where nothing that the law and all that it calls make is longer than what came in: it says more and counts as full. Else prove '..UptoSaid'. A law counts once. -/
mutual
def uptoBulk {H : Type} : DataW H → Nat
  | .lit (.string bytes) => bytes.length + 1
  | .lit _ => 1
  | .nil => 1
  | .ptr d => uptoBulk d + 1
  | .slice elems spare => uptoBulkAll elems + uptoBulkAll spare + 1
  | .agg parts => uptoBulkAll parts + 1
  | .iface _ d => uptoBulk d + 1
  | .map entries => uptoBulkEntries entries + 1
  | .held _ => 1
def uptoBulkAll {H : Type} : List (DataW H) → Nat
  | [] => 0
  | d :: r => uptoBulk d + uptoBulkAll r
def uptoBulkEntries {H : Type} : List (Lit × DataW H) → Nat
  | [] => 0
  | x :: r => uptoBulkEntry x + uptoBulkEntries r
def uptoBulkEntry {H : Type} : Lit × DataW H → Nat
  | (.string bytes, d) => bytes.length + uptoBulk d + 1
  | (_, d) => uptoBulk d + 1
 end
def uptoSmall : (H : Type) → List (DataW H) → Bool := fun _ ds => decide (uptoBulkAll ds ≤ 1048576)
def OpenSpec.upto (s : _root_.Go.ChangeSpec) : _root_.Go.OpenSpec := { _root_.Go.OpenSpec.ofChange s with cond := some uptoSmall }

/-- 'laws.FnExactConstants', WHERE WHAT IT READS IS OF BULK AT MOST 1048576: true; the input reads as it did. -/
def fnExactConstantsUptoRow : OpenClaim := { program := "ytjmjhpdoealpaaa", sum := "00edfa5a5471b9e17c4cfeb91d2f99c036516db71e94eaf0f2ea9d8ad4ad7635", func := "loop.example/g00040/laws.FnExactConstants", spec := "fnExactConstants", apart := false, narrowed := true }
def FnExactConstantsUptoSaid : Prop := fnExactConstantsUptoRow.holds Try.pinned (OpenSpec.upto fnExactConstantsSpec)

/-- 'laws.FnExactWeekday', WHERE WHAT IT READS IS OF BULK AT MOST 1048576: true; the input reads as it did. -/
def fnExactWeekdayUptoRow : OpenClaim := { program := "ytjmjhpdoealpaaa", sum := "00edfa5a5471b9e17c4cfeb91d2f99c036516db71e94eaf0f2ea9d8ad4ad7635", func := "loop.example/g00040/laws.FnExactWeekday", spec := "fnExactWeekday", apart := false, narrowed := true }
def FnExactWeekdayUptoSaid : Prop := fnExactWeekdayUptoRow.holds Try.pinned (OpenSpec.upto fnExactWeekdaySpec)

/-- 'laws.FnExactNormal', WHERE WHAT IT READS IS OF BULK AT MOST 1048576: true; the input reads as it did. -/
def fnExactNormalUptoRow : OpenClaim := { program := "ytjmjhpdoealpaaa", sum := "00edfa5a5471b9e17c4cfeb91d2f99c036516db71e94eaf0f2ea9d8ad4ad7635", func := "loop.example/g00040/laws.FnExactNormal", spec := "fnExactNormal", apart := false, narrowed := true }
def FnExactNormalUptoSaid : Prop := fnExactNormalUptoRow.holds Try.pinned (OpenSpec.upto fnExactNormalSpec)

/-- 'laws.FnExactNameOk', WHERE WHAT IT READS IS OF BULK AT MOST 1048576: true; the input reads as it did. -/
def fnExactNameOkUptoRow : OpenClaim := { program := "ytjmjhpdoealpaaa", sum := "00edfa5a5471b9e17c4cfeb91d2f99c036516db71e94eaf0f2ea9d8ad4ad7635", func := "loop.example/g00040/laws.FnExactNameOk", spec := "fnExactNameOk", apart := false, narrowed := true }
def FnExactNameOkUptoSaid : Prop := fnExactNameOkUptoRow.holds Try.pinned (OpenSpec.upto fnExactNameOkSpec)

/-- 'laws.FnExactAccountNumber', WHERE WHAT IT READS IS OF BULK AT MOST 1048576: true; the input reads as it did. -/
def fnExactAccountNumberUptoRow : OpenClaim := { program := "ytjmjhpdoealpaaa", sum := "00edfa5a5471b9e17c4cfeb91d2f99c036516db71e94eaf0f2ea9d8ad4ad7635", func := "loop.example/g00040/laws.FnExactAccountNumber", spec := "fnExactAccountNumber", apart := false, narrowed := true }
def FnExactAccountNumberUptoSaid : Prop := fnExactAccountNumberUptoRow.holds Try.pinned (OpenSpec.upto fnExactAccountNumberSpec)

/-- 'laws.FnExactPeriodAt', WHERE WHAT IT READS IS OF BULK AT MOST 1048576: true; the input reads as it did. -/
def fnExactPeriodAtUptoRow : OpenClaim := { program := "ytjmjhpdoealpaaa", sum := "00edfa5a5471b9e17c4cfeb91d2f99c036516db71e94eaf0f2ea9d8ad4ad7635", func := "loop.example/g00040/laws.FnExactPeriodAt", spec := "fnExactPeriodAt", apart := false, narrowed := true }
def FnExactPeriodAtUptoSaid : Prop := fnExactPeriodAtUptoRow.holds Try.pinned (OpenSpec.upto fnExactPeriodAtSpec)

end Rows
end Go.Proofs.Ytjmjhpdoealpaaa
