/-
  DERIVED. GIVEN WITH THE SEED: THE CARDS: each row of YteeanacmhclnoaaDoorRows.lean that lists a variable, with what it lists TIED to the program's text (the seventh form; the later family's looks); each row that meets fmt, with fmt's text TOLD by the authors' own Lean function (tested against real Go, not proved from fmt's source: count such statements apart). THE CARD IS WHAT COUNTS. Prove the row's statement (the work); the ties are given (YteeanacmhclnoaaDoorTie.lean); close each card by the builder's one call (the guide's Derived/Test/ToyasCard.lean, 'card_holds'). Laid BY PROGRAM, IN A SANDBOX (cutbox-door.mjs). By AI agents, Wed Nov 11 2026. No macro, syntax, notation, axiom, sorry.
-/
import Derived.Test.YteeanacmhclnoaaDoorRows
import GoSem.ClaimSeven
namespace Go.Proofs.YteeanacmhclnoaaDoor
namespace Rows

/-- THE TIED CARD OF 'laws.FnExactMonthEnd'. -/
def fnExactMonthEndCard : Claim7 := { stood := { row := fnExactMonthEndRow, standIns := [], harness := (true, "112fef58ea3c6b30db8969171c7d6d0e6a578dec2353c6d6a5970ca317f8ea86"), looks := false }, kinds := [], alts := [], laidByText := true, laidKinds := [.data], laidTests := true, laidLooks := .later }
def FnExactMonthEndCardSaid : Prop := Claim7.holds Tryd.pinned (.plain (OpenSpec.ofChange fnExactMonthEndSpec)) fnExactMonthEndCard

/-- THE TIED CARD OF 'laws.FnExactAddMonths'. -/
def fnExactAddMonthsCard : Claim7 := { stood := { row := fnExactAddMonthsRow, standIns := [], harness := (true, "112fef58ea3c6b30db8969171c7d6d0e6a578dec2353c6d6a5970ca317f8ea86"), looks := false }, kinds := [], alts := [], laidByText := true, laidKinds := [.data], laidTests := true, laidLooks := .later }
def FnExactAddMonthsCardSaid : Prop := Claim7.holds Tryd.pinned (.plain (OpenSpec.ofChange fnExactAddMonthsSpec)) fnExactAddMonthsCard

/-- THE TIED CARD OF 'laws.FnDatesBack'. -/
def fnDatesBackCard : Claim7 := { stood := { row := fnDatesBackRow, standIns := [], harness := (true, "112fef58ea3c6b30db8969171c7d6d0e6a578dec2353c6d6a5970ca317f8ea86"), looks := false }, kinds := [], alts := [], laidByText := true, laidKinds := [.data], laidTests := true, laidLooks := .later }
def FnDatesBackCardSaid : Prop := Claim7.holds Tryd.pinned (.plain (OpenSpec.ofChange fnDatesBackSpec)) fnDatesBackCard

/-- THE TIED CARD OF 'laws.FnExactCompanyFrame'. -/
def fnExactCompanyFrameCard : Claim7 := { stood := { row := fnExactCompanyFrameRow, standIns := [], harness := (true, "112fef58ea3c6b30db8969171c7d6d0e6a578dec2353c6d6a5970ca317f8ea86"), looks := false }, kinds := [], alts := [], laidByText := true, laidKinds := [.wider, .data], laidTests := true, laidLooks := .later }
def FnExactCompanyFrameCardSaid : Prop := Claim7.holds Tryd.pinned (.plain (OpenSpec.ofChange fnExactCompanyFrameSpec)) fnExactCompanyFrameCard

/-- THE SECOND FORM's CARD OF 'laws.FnExactMonthEnd'. -/
def fnExactMonthEndUptoCard : Claim7 := { stood := { row := fnExactMonthEndUptoRow, standIns := [], harness := (true, "112fef58ea3c6b30db8969171c7d6d0e6a578dec2353c6d6a5970ca317f8ea86"), looks := false }, kinds := [], alts := [], laidByText := true, laidKinds := [.data], laidTests := true, laidLooks := .later }
def FnExactMonthEndUptoCardSaid : Prop := Claim7.holds Tryd.pinned (.plain (OpenSpec.upto fnExactMonthEndSpec)) fnExactMonthEndUptoCard

/-- THE SECOND FORM's CARD OF 'laws.FnExactAddMonths'. -/
def fnExactAddMonthsUptoCard : Claim7 := { stood := { row := fnExactAddMonthsUptoRow, standIns := [], harness := (true, "112fef58ea3c6b30db8969171c7d6d0e6a578dec2353c6d6a5970ca317f8ea86"), looks := false }, kinds := [], alts := [], laidByText := true, laidKinds := [.data], laidTests := true, laidLooks := .later }
def FnExactAddMonthsUptoCardSaid : Prop := Claim7.holds Tryd.pinned (.plain (OpenSpec.upto fnExactAddMonthsSpec)) fnExactAddMonthsUptoCard

/-- THE SECOND FORM's CARD OF 'laws.FnDatesBack'. -/
def fnDatesBackUptoCard : Claim7 := { stood := { row := fnDatesBackUptoRow, standIns := [], harness := (true, "112fef58ea3c6b30db8969171c7d6d0e6a578dec2353c6d6a5970ca317f8ea86"), looks := false }, kinds := [], alts := [], laidByText := true, laidKinds := [.data], laidTests := true, laidLooks := .later }
def FnDatesBackUptoCardSaid : Prop := Claim7.holds Tryd.pinned (.plain (OpenSpec.upto fnDatesBackSpec)) fnDatesBackUptoCard

/-- THE SECOND FORM's CARD OF 'laws.FnExactCompanyFrame'. -/
def fnExactCompanyFrameUptoCard : Claim7 := { stood := { row := fnExactCompanyFrameUptoRow, standIns := [], harness := (true, "112fef58ea3c6b30db8969171c7d6d0e6a578dec2353c6d6a5970ca317f8ea86"), looks := false }, kinds := [], alts := [], laidByText := true, laidKinds := [.wider, .data], laidTests := true, laidLooks := .later }
def FnExactCompanyFrameUptoCardSaid : Prop := Claim7.holds Tryd.pinned (.plain (OpenSpec.upto fnExactCompanyFrameSpec)) fnExactCompanyFrameUptoCard
end Rows
end Go.Proofs.YteeanacmhclnoaaDoor
