/-
  DERIVED. GIVEN WITH THE SEED: THE CARDS: each row of YtegkhdobjcdfnaaDoorRows.lean that lists a variable, with what it lists TIED to the program's text (the seventh form; the later family's looks); each row that meets fmt, with fmt's text TOLD by the authors' own Lean function (tested against real Go, not proved from fmt's source: count such statements apart). THE CARD IS WHAT COUNTS. Prove the row's statement (the work); the ties are given (YtegkhdobjcdfnaaDoorTie.lean); close each card by the builder's one call (the guide's Derived/Test/ToyasCard.lean, 'card_holds'). Laid BY PROGRAM, IN A SANDBOX (cutbox-door.mjs). By AI agents, Wed Nov 11 2026. No macro, syntax, notation, axiom, sorry.
-/
import Derived.Test.YtegkhdobjcdfnaaDoorRows
import GoSem.ClaimSeven
namespace Go.Proofs.YtegkhdobjcdfnaaDoor
namespace Rows

/-- THE TIED CARD OF 'laws.FnExactDayOf'. -/
def fnExactDayOfCard : Claim7 := { stood := { row := fnExactDayOfRow, standIns := [], harness := (true, "940d7b663306ba742d2a6b9ae63564bf79bf5b46e6f2b06d8d0737ace1ae0d2d"), looks := false }, kinds := [], alts := [], laidByText := true, laidKinds := [.data], laidTests := true, laidLooks := .later }
def FnExactDayOfCardSaid : Prop := Claim7.holds Tryd.pinned (.plain (OpenSpec.ofChange fnExactDayOfSpec)) fnExactDayOfCard

/-- THE TIED CARD OF 'laws.FnExactDateOf'. -/
def fnExactDateOfCard : Claim7 := { stood := { row := fnExactDateOfRow, standIns := [], harness := (true, "940d7b663306ba742d2a6b9ae63564bf79bf5b46e6f2b06d8d0737ace1ae0d2d"), looks := false }, kinds := [], alts := [], laidByText := true, laidKinds := [.data], laidTests := true, laidLooks := .later }
def FnExactDateOfCardSaid : Prop := Claim7.holds Tryd.pinned (.plain (OpenSpec.ofChange fnExactDateOfSpec)) fnExactDateOfCard

/-- THE SECOND FORM's CARD OF 'laws.FnExactDayOf'. -/
def fnExactDayOfUptoCard : Claim7 := { stood := { row := fnExactDayOfUptoRow, standIns := [], harness := (true, "940d7b663306ba742d2a6b9ae63564bf79bf5b46e6f2b06d8d0737ace1ae0d2d"), looks := false }, kinds := [], alts := [], laidByText := true, laidKinds := [.data], laidTests := true, laidLooks := .later }
def FnExactDayOfUptoCardSaid : Prop := Claim7.holds Tryd.pinned (.plain (OpenSpec.upto fnExactDayOfSpec)) fnExactDayOfUptoCard

/-- THE SECOND FORM's CARD OF 'laws.FnExactDateOf'. -/
def fnExactDateOfUptoCard : Claim7 := { stood := { row := fnExactDateOfUptoRow, standIns := [], harness := (true, "940d7b663306ba742d2a6b9ae63564bf79bf5b46e6f2b06d8d0737ace1ae0d2d"), looks := false }, kinds := [], alts := [], laidByText := true, laidKinds := [.data], laidTests := true, laidLooks := .later }
def FnExactDateOfUptoCardSaid : Prop := Claim7.holds Tryd.pinned (.plain (OpenSpec.upto fnExactDateOfSpec)) fnExactDateOfUptoCard
end Rows
end Go.Proofs.YtegkhdobjcdfnaaDoor
