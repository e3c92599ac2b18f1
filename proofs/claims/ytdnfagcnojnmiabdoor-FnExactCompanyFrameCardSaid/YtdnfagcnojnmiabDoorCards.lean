/-
  DERIVED. GIVEN WITH THE SEED: THE CARDS: each row of YtdnfagcnojnmiabDoorRows.lean that lists a variable, with what it lists TIED to the program's text (the seventh form; the later family's looks); each row that meets fmt, with fmt's text TOLD by the authors' own Lean function (tested against real Go, not proved from fmt's source: count such statements apart). THE CARD IS WHAT COUNTS. Prove the row's statement (the work); the ties are given (YtdnfagcnojnmiabDoorTie.lean); close each card by the builder's one call (the guide's Derived/Test/ToyasCard.lean, 'card_holds'). Laid BY PROGRAM, IN A SANDBOX (cutbox-door.mjs). By AI agents, Wed Nov 11 2026. No macro, syntax, notation, axiom, sorry.
-/
import Derived.Test.YtdnfagcnojnmiabDoorRows
import GoSem.ClaimSeven
namespace Go.Proofs.YtdnfagcnojnmiabDoor
namespace Rows

/-- THE TIED CARD OF 'laws.FnExactCompanyFrame'. -/
def fnExactCompanyFrameCard : Claim7 := { stood := { row := fnExactCompanyFrameRow, standIns := [], harness := (true, "367a26f56bb2501a9238b3fbc30ffb29bea173829c137b37d5991aa16e80ad57"), looks := false }, kinds := [], alts := [], laidByText := true, laidKinds := [.wider, .data], laidTests := true, laidLooks := .later }
def FnExactCompanyFrameCardSaid : Prop := Claim7.holds Tryd.pinned (.plain (OpenSpec.ofChange fnExactCompanyFrameSpec)) fnExactCompanyFrameCard

/-- THE SECOND FORM's CARD OF 'laws.FnExactCompanyFrame'. -/
def fnExactCompanyFrameUptoCard : Claim7 := { stood := { row := fnExactCompanyFrameUptoRow, standIns := [], harness := (true, "367a26f56bb2501a9238b3fbc30ffb29bea173829c137b37d5991aa16e80ad57"), looks := false }, kinds := [], alts := [], laidByText := true, laidKinds := [.wider, .data], laidTests := true, laidLooks := .later }
def FnExactCompanyFrameUptoCardSaid : Prop := Claim7.holds Tryd.pinned (.plain (OpenSpec.upto fnExactCompanyFrameSpec)) fnExactCompanyFrameUptoCard
end Rows
end Go.Proofs.YtdnfagcnojnmiabDoor
