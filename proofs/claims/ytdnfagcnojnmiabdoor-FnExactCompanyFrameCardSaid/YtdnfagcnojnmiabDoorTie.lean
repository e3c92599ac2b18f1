/-
  DERIVED. GIVEN WITH THE SEED: THE PROGRAM's TIES (one call each: nine closed facts by the kernel) AND EACH ROW's TIE, after the 31st guide's Derived/Test/Toyas{Tie, Card}.lean. No idea stands in it: it is a product of the set-up. Laid BY PROGRAM, IN A SANDBOX (cutbox-door.mjs). By AI agents, Wed Nov 11 2026. No macro, syntax, notation, axiom, sorry.
-/
import Derived.Test.YtdnfagcnojnmiabDoorRows
import Derived.LaidByTextLater
import Derived.SevenTiedAt
import Derived.LaidSub
import Derived.LaidOnce
namespace Go.Proofs.YtdnfagcnojnmiabDoor
open Go
set_option maxRecDepth 100000
theorem seatTie1 : Tryd.prog.laidByTextLater [("loop.example/g00040/impl.leafCodes", Rows.laid_loop_example_g00040_impl_leafCodes), ("loop.example/g00040/impl.leafKinds", Rows.laid_loop_example_g00040_impl_leafKinds)] [.wider, .data] true :=
  Program.laidByTextLater_by_one 19 8 12 (by kernel_rfl) (by kernel_rfl) (by kernel_rfl) (by kernel_rfl) (by kernel_rfl) (by kernel_rfl) (fun _ _ => by kernel_rfl)
theorem noOwnUnsafe : Tryd.pinned.checked.prog.headLifts.contains "ownunsafe" = false := by kernel_rfl
theorem tie : Tryd.prog.laidByTextLater [("loop.example/g00040/impl.leafCodes", Rows.laid_loop_example_g00040_impl_leafCodes), ("loop.example/g00040/impl.leafKinds", Rows.laid_loop_example_g00040_impl_leafKinds)] [.wider, .data] true :=
  Program.laidByTextLater.sub seatTie1 ["loop.example/g00040/impl.leafCodes", "loop.example/g00040/impl.leafKinds"] (by kernel_rfl) (by kernel_rfl)
theorem fnExactCompanyFrame_row_tie : Rows.fnExactCompanyFrameRow.laidByTextAt .later Tryd.pinned [.wider, .data] true :=
  OpenClaim.laidByTextAt_later rfl rfl tie noOwnUnsafe
theorem fnExactCompanyFrameUpto_row_tie : Rows.fnExactCompanyFrameUptoRow.laidByTextAt .later Tryd.pinned [.wider, .data] true :=
  OpenClaim.laidByTextAt_later rfl rfl tie noOwnUnsafe
end Go.Proofs.YtdnfagcnojnmiabDoor
