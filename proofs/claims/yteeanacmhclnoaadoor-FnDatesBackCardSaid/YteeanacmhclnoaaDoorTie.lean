/-
  DERIVED. GIVEN WITH THE SEED: THE PROGRAM's TIES (one call each: nine closed facts by the kernel) AND EACH ROW's TIE, after the 31st guide's Derived/Test/Toyas{Tie, Card}.lean. No idea stands in it: it is a product of the set-up. Laid BY PROGRAM, IN A SANDBOX (cutbox-door.mjs). By AI agents, Wed Nov 11 2026. No macro, syntax, notation, axiom, sorry.
-/
import Derived.Test.YteeanacmhclnoaaDoorRows
import Derived.LaidByTextLater
import Derived.SevenTiedAt
import Derived.LaidSub
import Derived.LaidOnce
namespace Go.Proofs.YteeanacmhclnoaaDoor
open Go
set_option maxRecDepth 100000
theorem seatTie1 : Tryd.prog.laidByTextLater [("loop.example/g00040/impl.monthDays", Rows.laid_loop_example_g00040_impl_monthDays), ("loop.example/g00040/impl.leafCodes", Rows.laid_loop_example_g00040_impl_leafCodes), ("loop.example/g00040/impl.leafKinds", Rows.laid_loop_example_g00040_impl_leafKinds)] [.data, .wider, .data] true :=
  Program.laidByTextLater_by_one 24 8 14 (by kernel_rfl) (by kernel_rfl) (by kernel_rfl) (by kernel_rfl) (by kernel_rfl) (by kernel_rfl) (fun _ _ => by kernel_rfl)
theorem noOwnUnsafe : Tryd.pinned.checked.prog.headLifts.contains "ownunsafe" = false := by kernel_rfl
theorem tie : Tryd.prog.laidByTextLater [("loop.example/g00040/impl.monthDays", Rows.laid_loop_example_g00040_impl_monthDays)] [.data] true :=
  Program.laidByTextLater.sub seatTie1 ["loop.example/g00040/impl.monthDays"] (by kernel_rfl) (by kernel_rfl)
theorem fnExactMonthEnd_row_tie : Rows.fnExactMonthEndRow.laidByTextAt .later Tryd.pinned [.data] true :=
  OpenClaim.laidByTextAt_later rfl rfl tie noOwnUnsafe
theorem fnExactAddMonths_row_tie : Rows.fnExactAddMonthsRow.laidByTextAt .later Tryd.pinned [.data] true :=
  OpenClaim.laidByTextAt_later rfl rfl tie noOwnUnsafe
theorem fnDatesBack_row_tie : Rows.fnDatesBackRow.laidByTextAt .later Tryd.pinned [.data] true :=
  OpenClaim.laidByTextAt_later rfl rfl tie noOwnUnsafe
theorem tie2 : Tryd.prog.laidByTextLater [("loop.example/g00040/impl.leafCodes", Rows.laid_loop_example_g00040_impl_leafCodes), ("loop.example/g00040/impl.leafKinds", Rows.laid_loop_example_g00040_impl_leafKinds)] [.wider, .data] true :=
  Program.laidByTextLater.sub seatTie1 ["loop.example/g00040/impl.leafCodes", "loop.example/g00040/impl.leafKinds"] (by kernel_rfl) (by kernel_rfl)
theorem fnExactCompanyFrame_row_tie : Rows.fnExactCompanyFrameRow.laidByTextAt .later Tryd.pinned [.wider, .data] true :=
  OpenClaim.laidByTextAt_later rfl rfl tie2 noOwnUnsafe
theorem fnExactMonthEndUpto_row_tie : Rows.fnExactMonthEndUptoRow.laidByTextAt .later Tryd.pinned [.data] true :=
  OpenClaim.laidByTextAt_later rfl rfl tie noOwnUnsafe
theorem fnExactAddMonthsUpto_row_tie : Rows.fnExactAddMonthsUptoRow.laidByTextAt .later Tryd.pinned [.data] true :=
  OpenClaim.laidByTextAt_later rfl rfl tie noOwnUnsafe
theorem fnDatesBackUpto_row_tie : Rows.fnDatesBackUptoRow.laidByTextAt .later Tryd.pinned [.data] true :=
  OpenClaim.laidByTextAt_later rfl rfl tie noOwnUnsafe
theorem fnExactCompanyFrameUpto_row_tie : Rows.fnExactCompanyFrameUptoRow.laidByTextAt .later Tryd.pinned [.wider, .data] true :=
  OpenClaim.laidByTextAt_later rfl rfl tie2 noOwnUnsafe
end Go.Proofs.YteeanacmhclnoaaDoor
